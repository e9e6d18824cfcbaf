/- The reference's BoundDoes at Mul, all cases. Conditions: the ends are int64's in order; the variable 'all' holds all numbers. -/
import Derived.Test.YtfpoicdfkjbknaaDoorWalkRefB4
import Derived.Test.YtfpoicdfkjbknaaDoorWalkRefB4n
namespace Go.Proofs.YtfpoicdfkjbknaaDoor.W
open Go.RowKit Go.Proofs.YtfpoicdfkjbknaaDoor.P
set_option linter.unusedSimpArgs false
set_option linter.unusedVariables false

set_option maxRecDepth 100000 in
set_option maxHeartbeats 4000000 in
theorem RefB_4 (al ah bl bh : Int) (ia : In64 al) (ia2 : In64 ah) (ib : In64 bl) (ib2 : In64 bh) (ha : al ≤ ah) (hb : bl ≤ bh) (w : World) (hg0 : w.cell? ⟨4, 0, none⟩ = some (.int .i64 (-9223372036854775808))) (hg1 : w.cell? ⟨4, 1, none⟩ = some (.int .i64 9223372036854775807)) (gz : 4 < w.heap.size) :
  Calls Tryd.prog 79 #[.int .i64 4, .agg #[.int .i64 al, .int .i64 ah], .agg #[.int .i64 bl, .int .i64 bh]] w fun e w' => e = .returned (.agg #[.int .i64 ((bdoes 4 ⟨al, ah⟩ ⟨bl, bh⟩).lo), .int .i64 ((bdoes 4 ⟨al, ah⟩ ⟨bl, bh⟩).hi)]) ∧ Below w.heap.size w w' := by
 have e : bdoes 4 ⟨al, ah⟩ ⟨bl, bh⟩ = btimes ⟨al, ah⟩ ⟨bl, bh⟩ := rfl
 rw [e]
 by_cases l0 : al < -2147483648
 ·rw [btimes_all (by omega)]; exact RefB4_0lo al ah bl bh l0 w hg0 hg1 gz
 by_cases g0 : 2147483648 < al
 ·rw [btimes_all (by omega)]; exact RefB4_0hi al ah bl bh g0 w hg0 hg1 gz
 have s0 : -2147483648 ≤ al := by omega
 have t0 : al ≤ 2147483648 := by omega
 by_cases l1 : ah < -2147483648
 ·rw [btimes_all (by omega)]; exact RefB4_1lo al ah bl bh s0 t0 l1 w hg0 hg1 gz
 by_cases g1 : 2147483648 < ah
 ·rw [btimes_all (by omega)]; exact RefB4_1hi al ah bl bh s0 t0 g1 w hg0 hg1 gz
 have s1 : -2147483648 ≤ ah := by omega
 have t1 : ah ≤ 2147483648 := by omega
 by_cases l2 : bl < -2147483648
 ·rw [btimes_all (by omega)]; exact RefB4_2lo al ah bl bh s0 t0 s1 t1 l2 w hg0 hg1 gz
 by_cases g2 : 2147483648 < bl
 ·rw [btimes_all (by omega)]; exact RefB4_2hi al ah bl bh s0 t0 s1 t1 g2 w hg0 hg1 gz
 have s2 : -2147483648 ≤ bl := by omega
 have t2 : bl ≤ 2147483648 := by omega
 by_cases l3 : bh < -2147483648
 ·rw [btimes_all (by omega)]; exact RefB4_3lo al ah bl bh s0 t0 s1 t1 s2 t2 l3 w hg0 hg1 gz
 by_cases g3 : 2147483648 < bh
 ·rw [btimes_all (by omega)]; exact RefB4_3hi al ah bl bh s0 t0 s1 t1 s2 t2 g3 w hg0 hg1 gz
 have s3 : -2147483648 ≤ bh := by omega
 have t3 : bh ≤ 2147483648 := by omega
 rw [btimes_of s0 t0 s1 t1 s2 t2 s3 t3]
 by_cases p0 : 0 ≤ al
 ·exact RefB4_allp al ah bl bh s0 t0 s1 t1 s2 t2 s3 t3 p0 w hg0 hg1 gz
 ·exact RefB4_alln al ah bl bh s0 t0 s1 t1 s2 t2 s3 t3 p0 w hg0 hg1 gz

end Go.Proofs.YtfpoicdfkjbknaaDoor.W
