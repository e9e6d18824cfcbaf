/- A part of the proof; each theorem states its conditions. -/
import Derived.Test.YtglilddlhibogaaGreatDoorWalkRefB4d
set_option linter.unusedSimpArgs false
set_option linter.unusedVariables false
set_option maxRecDepth 100000
set_option maxHeartbeats 100000000
namespace Go.Proofs.YtglilddlhibogaaGreatDoor.W
open Go.RowKit Go.Proofs.YtglilddlhibogaaGreatDoor.P
theorem aHo(al ah bl bh:Int)(s0:-2147483648≤al)(t0:al≤2147483648)(s1:-2147483648≤ah)(t1:ah≤2147483648)(s2:-2147483648≤bl)(t2:bl≤2147483648)(s3:-2147483648≤bh)(t3:bh≤2147483648)(p0:¬0≤al)(w:World)(hg0:w.cell? ⟨4,0,none⟩=some (aU (-9223372036854775808)))(hg1:w.cell? ⟨4,1,none⟩=some (aU 9223372036854775807))(gz:4<w.heap.size) :
  Calls Tryz.prog 147 #[aU 4,.agg #[aU al,aU ah],.agg #[aU bl,aU bh]] w fun e w'=>e=.returned (.agg #[aU (min (al*bl) (min (al*bh) (min (ah*bl) (ah*bh)))),aU (max (al*bl) (max (al*bh) (max (ah*bl) (ah*bh))))])∧Below w.heap.size w w':=by
 exact awT
end Go.Proofs.YtglilddlhibogaaGreatDoor.W
