/- A part of the proof; each theorem states its conditions. -/
import Derived.Test.YtglilddlhibogaaGreatDoorWalkRefB4d
set_option linter.unusedSimpArgs false
set_option linter.unusedVariables false
set_option maxRecDepth 100000
set_option maxHeartbeats 100000000
namespace Go.Proofs.YtglilddlhibogaaGreatDoor.W
open Go.RowKit Go.Proofs.YtglilddlhibogaaGreatDoor.P
theorem aKv(al ah bl bh:Int) (h:al < -2147483648)(w:World)(hg0:w.cell? ⟨4,0,none⟩=some (aU (-9223372036854775808)))(hg1:w.cell? ⟨4,1,none⟩=some (aU 9223372036854775807))(gz:4<w.heap.size) :
  Calls Tryz.prog 147 #[aU 4,.agg #[aU al,aU ah],.agg #[aU bl,aU bh]] w fun e w'=>e=.returned (.agg #[aU ((-9223372036854775808)),aU (9223372036854775807)])∧Below w.heap.size w w':=by
 refine JI ?_;intro HW0 Ep FC EJ FD FT Gl Gm;have p0:¬0≤al:=bQ;exact ap6
theorem aKw(al ah bl bh:Int) (h:2147483648<al)(w:World)(hg0:w.cell? ⟨4,0,none⟩=some (aU (-9223372036854775808)))(hg1:w.cell? ⟨4,1,none⟩=some (aU 9223372036854775807))(gz:4<w.heap.size) :
  Calls Tryz.prog 147 #[aU 4,.agg #[aU al,aU ah],.agg #[aU bl,aU bh]] w fun e w'=>e=.returned (.agg #[aU ((-9223372036854775808)),aU (9223372036854775807)])∧Below w.heap.size w w':=by
 refine JI ?_;intro HW0 Ep FC EJ FD FT Gl Gm;have h':¬al < -2147483648:=bQ;have p0:0≤al:=bQ;exact ap6
theorem aKx(al ah bl bh:Int)(s0:-2147483648≤al)(t0:al≤2147483648)(h:ah < -2147483648)(w:World)(hg0:w.cell? ⟨4,0,none⟩=some (aU (-9223372036854775808)))(hg1:w.cell? ⟨4,1,none⟩=some (aU 9223372036854775807))(gz:4<w.heap.size) :
  Calls Tryz.prog 147 #[aU 4,.agg #[aU al,aU ah],.agg #[aU bl,aU bh]] w fun e w'=>e=.returned (.agg #[aU ((-9223372036854775808)),aU (9223372036854775807)])∧Below w.heap.size w w':=by
 exact auE
theorem aKy(al ah bl bh:Int)(s0:-2147483648≤al)(t0:al≤2147483648)(h:2147483648<ah)(w:World)(hg0:w.cell? ⟨4,0,none⟩=some (aU (-9223372036854775808)))(hg1:w.cell? ⟨4,1,none⟩=some (aU 9223372036854775807))(gz:4<w.heap.size) :
  Calls Tryz.prog 147 #[aU 4,.agg #[aU al,aU ah],.agg #[aU bl,aU bh]] w fun e w'=>e=.returned (.agg #[aU ((-9223372036854775808)),aU (9223372036854775807)])∧Below w.heap.size w w':=by
 refine JI ?_;intro HW0 Ep FC EJ FD FT Gl Gm;have h':¬ah < -2147483648:=bQ;exact ap5
theorem aKz(al ah bl bh:Int)(s0:-2147483648≤al)(t0:al≤2147483648)(s1:-2147483648≤ah)(t1:ah≤2147483648)(h:bl < -2147483648)(w:World)(hg0:w.cell? ⟨4,0,none⟩=some (aU (-9223372036854775808)))(hg1:w.cell? ⟨4,1,none⟩=some (aU 9223372036854775807))(gz:4<w.heap.size) :
  Calls Tryz.prog 147 #[aU 4,.agg #[aU al,aU ah],.agg #[aU bl,aU bh]] w fun e w'=>e=.returned (.agg #[aU ((-9223372036854775808)),aU (9223372036854775807)])∧Below w.heap.size w w':=by
 exact auE
theorem aKA(al ah bl bh:Int)(s0:-2147483648≤al)(t0:al≤2147483648)(s1:-2147483648≤ah)(t1:ah≤2147483648)(h:2147483648<bl)(w:World)(hg0:w.cell? ⟨4,0,none⟩=some (aU (-9223372036854775808)))(hg1:w.cell? ⟨4,1,none⟩=some (aU 9223372036854775807))(gz:4<w.heap.size) :
  Calls Tryz.prog 147 #[aU 4,.agg #[aU al,aU ah],.agg #[aU bl,aU bh]] w fun e w'=>e=.returned (.agg #[aU ((-9223372036854775808)),aU (9223372036854775807)])∧Below w.heap.size w w':=by
 refine JI ?_;intro HW0 Ep FC EJ FD FT Gl Gm;have h':¬bl < -2147483648:=bQ;exact ap5
theorem aKB(al ah bl bh:Int)(s0:-2147483648≤al)(t0:al≤2147483648)(s1:-2147483648≤ah)(t1:ah≤2147483648)(s2:-2147483648≤bl)(t2:bl≤2147483648)(h:bh < -2147483648)(w:World)(hg0:w.cell? ⟨4,0,none⟩=some (aU (-9223372036854775808)))(hg1:w.cell? ⟨4,1,none⟩=some (aU 9223372036854775807))(gz:4<w.heap.size) :
  Calls Tryz.prog 147 #[aU 4,.agg #[aU al,aU ah],.agg #[aU bl,aU bh]] w fun e w'=>e=.returned (.agg #[aU ((-9223372036854775808)),aU (9223372036854775807)])∧Below w.heap.size w w':=by
 exact auE
theorem aKC(al ah bl bh:Int)(s0:-2147483648≤al)(t0:al≤2147483648)(s1:-2147483648≤ah)(t1:ah≤2147483648)(s2:-2147483648≤bl)(t2:bl≤2147483648)(h:2147483648<bh)(w:World)(hg0:w.cell? ⟨4,0,none⟩=some (aU (-9223372036854775808)))(hg1:w.cell? ⟨4,1,none⟩=some (aU 9223372036854775807))(gz:4<w.heap.size) :
  Calls Tryz.prog 147 #[aU 4,.agg #[aU al,aU ah],.agg #[aU bl,aU bh]] w fun e w'=>e=.returned (.agg #[aU ((-9223372036854775808)),aU (9223372036854775807)])∧Below w.heap.size w w':=by
 refine JI ?_;intro HW0 Ep FC EJ FD FT Gl Gm;have h':¬bh < -2147483648:=bQ;exact ap5
theorem aKD(al ah bl bh:Int)(s0:-2147483648≤al)(t0:al≤2147483648)(s1:-2147483648≤ah)(t1:ah≤2147483648)(s2:-2147483648≤bl)(t2:bl≤2147483648)(s3:-2147483648≤bh)(t3:bh≤2147483648)(p0:0≤al)(w:World)(hg0:w.cell? ⟨4,0,none⟩=some (aU (-9223372036854775808)))(hg1:w.cell? ⟨4,1,none⟩=some (aU 9223372036854775807))(gz:4<w.heap.size) :
  Calls Tryz.prog 147 #[aU 4,.agg #[aU al,aU ah],.agg #[aU bl,aU bh]] w fun e w'=>e=.returned (.agg #[aU (min (al*bl) (min (al*bh) (min (ah*bl) (ah*bh)))),aU (max (al*bl) (max (al*bh) (max (ah*bl) (ah*bh))))])∧Below w.heap.size w w':=by
 exact awT
end Go.Proofs.YtglilddlhibogaaGreatDoor.W
