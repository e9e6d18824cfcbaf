/- The reference's BoundDoes answers as package bound says, for every code. Conditions: the ends are int64's in order; the variable 'all' holds all numbers. -/
import Derived.Test.YtfpoicdfkjbknaaDoorWalkRefB2
import Derived.Test.YtfpoicdfkjbknaaDoorWalkRefB4e
namespace Go.Proofs.YtfpoicdfkjbknaaDoor.W
open Go.RowKit Go.Proofs.YtfpoicdfkjbknaaDoor.P
set_option linter.unusedSimpArgs false
set_option linter.unusedVariables false

theorem RefBDoes_any (c al ah bl bh : Int) (ia : In64 al) (ia2 : In64 ah) (ib : In64 bl) (ib2 : In64 bh) (ha : al ≤ ah) (hb : bl ≤ bh) (w : World) (hg0 : w.cell? ⟨4, 0, none⟩ = some (.int .i64 (-9223372036854775808))) (hg1 : w.cell? ⟨4, 1, none⟩ = some (.int .i64 9223372036854775807)) (gz : 4 < w.heap.size) :
  Calls Tryd.prog 79 #[.int .i64 c, .agg #[.int .i64 al, .int .i64 ah], .agg #[.int .i64 bl, .int .i64 bh]] w fun e w' => e = .returned (.agg #[.int .i64 ((bdoes c ⟨al, ah⟩ ⟨bl, bh⟩).lo), .int .i64 ((bdoes c ⟨al, ah⟩ ⟨bl, bh⟩).hi)]) ∧ Below w.heap.size w w' := by
 by_cases hc : c < 1 ∨ 13 < c
 ·exact RefB_oth c hc al ah bl bh ia ia2 ib ib2 ha hb w hg0 hg1 gz
 have hc' : c = 1 ∨ c = 2 ∨ c = 3 ∨ c = 4 ∨ c = 5 ∨ c = 6 ∨ c = 7 ∨ c = 8 ∨ c = 9 ∨ c = 10 ∨ c = 11 ∨ c = 12 ∨ c = 13 := by omega
 rcases hc' with rfl | rfl | rfl | rfl | rfl | rfl | rfl | rfl | rfl | rfl | rfl | rfl | rfl
 ·exact RefB_1 al ah bl bh ia ia2 ib ib2 ha hb w hg0 hg1 gz
 ·exact RefB_2 al ah bl bh ia ia2 ib ib2 ha hb w hg0 hg1 gz
 ·exact RefB_3 al ah bl bh ia ia2 ib ib2 ha hb w hg0 hg1 gz
 ·exact RefB_4 al ah bl bh ia ia2 ib ib2 ha hb w hg0 hg1 gz
 ·exact RefB_5 al ah bl bh ia ia2 ib ib2 ha hb w hg0 hg1 gz
 ·exact RefB_6 al ah bl bh ia ia2 ib ib2 ha hb w hg0 hg1 gz
 ·exact RefB_7 al ah bl bh ia ia2 ib ib2 ha hb w hg0 hg1 gz
 ·exact RefB_8 al ah bl bh ia ia2 ib ib2 ha hb w hg0 hg1 gz
 ·exact RefB_9 al ah bl bh ia ia2 ib ib2 ha hb w hg0 hg1 gz
 ·exact RefB_10 al ah bl bh ia ia2 ib ib2 ha hb w hg0 hg1 gz
 ·exact RefB_11 al ah bl bh ia ia2 ib ib2 ha hb w hg0 hg1 gz
 ·exact RefB_12 al ah bl bh ia ia2 ib ib2 ha hb w hg0 hg1 gz
 ·exact RefB_13 al ah bl bh ia ia2 ib ib2 ha hb w hg0 hg1 gz

end Go.Proofs.YtfpoicdfkjbknaaDoor.W
