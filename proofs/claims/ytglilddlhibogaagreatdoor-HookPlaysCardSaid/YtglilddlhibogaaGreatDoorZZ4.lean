/- Closed pieces of proofs that come again and again, each a proposition's own proof. -/
import Derived.Test.YtglilddlhibogaaGreatDoorZZ0
import Derived.Deep.QuietTactic
import Derived.OwnWalk
import Derived.RegionTactic
set_option maxRecDepth 100000
namespace Go.Proofs
variable{p q:Prop}
theorem aPt(h:p:=by
 go_enter Tryz.func146,Tryz.ntmps146
 go_wp2_with fail
 go_quiet (fail)
 go_wp2_with fail
 refine(YA _ _ _ _ _).mono ?_
 rw[HM1.out]
 (rintro e w1 ⟨rfl,hb⟩;obtain⟨hc1,hf1⟩:=jd hb;have hz1:=hb.size;(try simp at hz1);have HW1:=bW (show Below w.heap.size w w1 from Below.trans gI (hb.mono fD));clear hb;have z10:w.heap.size<w1.heap.size:=bQ;have z11:w.heap.size+1<w1.heap.size:=bQ;have z12:w.heap.size+1+1<w1.heap.size:=bQ;have z13:w.heap.size+1+1+1<w1.heap.size:=bQ;have NT:w.heap.size+1+1+1+1<w1.heap.size:=bQ)
 have zG:w.heap.size<w1.heap.size:=bQ
 have Uz:w1.cell? ⟨w.heap.size,0,none⟩=some (aU (al)):=jW
 have XM:w1.frozen? ⟨w.heap.size,0,none⟩=false:=ru
 have UA:w1.cell? ⟨w.heap.size,1,none⟩=some (aU (ah)):=jW
 have XP:w1.frozen? ⟨w.heap.size,1,none⟩=false:=ru
 have zH:w.heap.size+1<w1.heap.size:=bQ
 have UC:w1.cell? ⟨w.heap.size+1,0,none⟩=some (aU (bl)):=jW
 have UD:w1.cell? ⟨w.heap.size+1,1,none⟩=some (aU (bh)):=jW
 have zI:w.heap.size+1+1<w1.heap.size:=bQ
 have UE:w1.cell? ⟨w.heap.size+1+1,0,none⟩=some (aU (0)):=jW
 have XR:w1.frozen? ⟨w.heap.size+1+1,0,none⟩=false:=ru
 have UF:w1.cell? ⟨w.heap.size+1+1,1,none⟩=some (aU (0)):=jW
 have XT:w1.frozen? ⟨w.heap.size+1+1,1,none⟩=false:=ru
 have zJ:w.heap.size+1+1+1<w1.heap.size:=bQ
 have UG:w1.cell? ⟨w.heap.size+1+1+1,0,none⟩=some (aU (0)):=jW
 have XU:w1.frozen? ⟨w.heap.size+1+1+1,0,none⟩=false:=ru
 have UH:w1.cell? ⟨w.heap.size+1+1+1,1,none⟩=some (aU (0)):=jW
 have XV:w1.frozen? ⟨w.heap.size+1+1+1,1,none⟩=false:=ru
 have zK:w.heap.size+1+1+1+1<w1.heap.size:=bQ
 have UJ:w1.cell? ⟨w.heap.size+1+1+1+1,0,none⟩=some (aU (0)):=jW
 have UK:w1.cell? ⟨w.heap.size+1+1+1+1,1,none⟩=some (aU (0)):=jW
 clear hc1 hf1
 go_wp2_with fail
 refine(YA _ _ _ _ _).mono ?_
 rw[Fz.out]
 (rintro e w2 ⟨rfl,hb⟩;obtain⟨hc2,hf2⟩:=jd hb;have hz2:=hb.size;(try simp at hz2);have HW2:=bW (show Below w.heap.size w w2 from Below.trans jZ (hb.mono fD));clear hb;have z20:w.heap.size<w2.heap.size:=bQ;have z21:w.heap.size+1<w2.heap.size:=bQ;have z22:w.heap.size+1+1<w2.heap.size:=bQ;have z23:w.heap.size+1+1+1<w2.heap.size:=bQ;have z24:w.heap.size+1+1+1+1<w2.heap.size:=bQ;have z25:w.heap.size+1+1+1+1+1<w2.heap.size:=bQ)
 have y2a:w.heap.size<w2.heap.size:=bQ
 have afy:w2.cell? ⟨w.heap.size,0,none⟩=some (aU (al)):=ajR
 have aqR:w2.frozen? ⟨w.heap.size,0,none⟩=false:=anl
 have afE:w2.cell? ⟨w.heap.size,1,none⟩=some (aU (ah)):=ajT
 have aqS:w2.frozen? ⟨w.heap.size,1,none⟩=false:=anm
 have y2b:w.heap.size+1<w2.heap.size:=bQ
 have afJ:w2.cell? ⟨w.heap.size+1,0,none⟩=some (aU (bl)):=ajU
 have afM:w2.cell? ⟨w.heap.size+1,1,none⟩=some (aU (bh)):=ajV
 have y2r:w.heap.size+1+1<w2.heap.size:=bQ
 have afN:w2.cell? ⟨w.heap.size+1+1,0,none⟩=some (aU (0)):=ajW
 have anX:w2.frozen? ⟨w.heap.size+1+1,0,none⟩=false:=ajX
 have afP:w2.cell? ⟨w.heap.size+1+1,1,none⟩=some (aU (0)):=ajY
 have anY:w2.frozen? ⟨w.heap.size+1+1,1,none⟩=false:=ajZ
 have y2s:w.heap.size+1+1+1<w2.heap.size:=bQ
 have afQ:w2.cell? ⟨w.heap.size+1+1+1,0,none⟩=some (aU (0)):=aj0
 have anZ:w2.frozen? ⟨w.heap.size+1+1+1,0,none⟩=false:=aj1
 have afR:w2.cell? ⟨w.heap.size+1+1+1,1,none⟩=some (aU (0)):=aj2
 have an0:w2.frozen? ⟨w.heap.size+1+1+1,1,none⟩=false:=aj3
 have y2n:w.heap.size+1+1+1+1<w2.heap.size:=bQ
 have am9:w2.cell? ⟨w.heap.size+1+1+1+1,0,none⟩=some (aU (0)):=ano
 have ana:w2.cell? ⟨w.heap.size+1+1+1+1,1,none⟩=some (aU (0)):=anp
 have y2x:w1.heap.size<w2.heap.size:=bQ
 have anb:w2.cell? ⟨w1.heap.size,0,none⟩=some (aU (Ie)):=Zz
 have anc:w2.cell? ⟨w1.heap.size,1,none⟩=some (aU (Ig)):=Zz
 clear hc2 hf2
 go_wp2_with fail
 go_region
 go_wp2_with fail
 exact bodyPost_ret (v:=.tuple #[.agg #[aU (0),aU (0)],.agg #[aU (0),aU (0)],.bool (false)]) am8 rfl ⟨by first|rfl|(simp[kK,BF];done),Uu⟩):p:=h
theorem aCm(h:p:=by
 have HM1:=bW hm1
 have Fz:=bW hm2
 clear hm1 hm2
 obtain⟨⟨Ie,Ig⟩,m1b⟩:=m1
 obtain⟨⟨m2l,m2h⟩,m2b⟩:=m2
 cases m1b<;>cases m2b
 ·go_enter Tryz.func146,Tryz.ntmps146
  go_wp2_with fail
  go_quiet (fail)
  go_wp2_with fail
  refine(YA _ _ _ _ _).mono ?_
  rw[HM1.out]
  (rintro e w1 ⟨rfl,hb⟩;obtain⟨hc1,hf1⟩:=jd hb;have hz1:=hb.size;(try simp at hz1);have HW1:=bW (show Below w.heap.size w w1 from Below.trans gI (hb.mono fD));clear hb;have z10:w.heap.size<w1.heap.size:=bQ;have z11:w.heap.size+1<w1.heap.size:=bQ;have z12:w.heap.size+1+1<w1.heap.size:=bQ;have z13:w.heap.size+1+1+1<w1.heap.size:=bQ;have NT:w.heap.size+1+1+1+1<w1.heap.size:=bQ)
  have zG:w.heap.size<w1.heap.size:=bQ
  have Uz:w1.cell? ⟨w.heap.size,0,none⟩=some (aU (al)):=jW
  have XM:w1.frozen? ⟨w.heap.size,0,none⟩=false:=ru
  have UA:w1.cell? ⟨w.heap.size,1,none⟩=some (aU (ah)):=jW
  have XP:w1.frozen? ⟨w.heap.size,1,none⟩=false:=ru
  have zH:w.heap.size+1<w1.heap.size:=bQ
  have UC:w1.cell? ⟨w.heap.size+1,0,none⟩=some (aU (bl)):=jW
  have UD:w1.cell? ⟨w.heap.size+1,1,none⟩=some (aU (bh)):=jW
  have zI:w.heap.size+1+1<w1.heap.size:=bQ
  have UE:w1.cell? ⟨w.heap.size+1+1,0,none⟩=some (aU (0)):=jW
  have XR:w1.frozen? ⟨w.heap.size+1+1,0,none⟩=false:=ru
  have UF:w1.cell? ⟨w.heap.size+1+1,1,none⟩=some (aU (0)):=jW
  have XT:w1.frozen? ⟨w.heap.size+1+1,1,none⟩=false:=ru
  have zJ:w.heap.size+1+1+1<w1.heap.size:=bQ
  have UG:w1.cell? ⟨w.heap.size+1+1+1,0,none⟩=some (aU (0)):=jW
  have XU:w1.frozen? ⟨w.heap.size+1+1+1,0,none⟩=false:=ru
  have UH:w1.cell? ⟨w.heap.size+1+1+1,1,none⟩=some (aU (0)):=jW
  have XV:w1.frozen? ⟨w.heap.size+1+1+1,1,none⟩=false:=ru
  have zK:w.heap.size+1+1+1+1<w1.heap.size:=bQ
  have UJ:w1.cell? ⟨w.heap.size+1+1+1+1,0,none⟩=some (aU (0)):=jW
  have UK:w1.cell? ⟨w.heap.size+1+1+1+1,1,none⟩=some (aU (0)):=jW
  clear hc1 hf1
  go_wp2_with fail
  refine(YA _ _ _ _ _).mono ?_
  rw[Fz.out]
  (rintro e w2 ⟨rfl,hb⟩;obtain⟨hc2,hf2⟩:=jd hb;have hz2:=hb.size;(try simp at hz2);have HW2:=bW (show Below w.heap.size w w2 from Below.trans jZ (hb.mono fD));clear hb;have z20:w.heap.size<w2.heap.size:=bQ;have z21:w.heap.size+1<w2.heap.size:=bQ;have z22:w.heap.size+1+1<w2.heap.size:=bQ;have z23:w.heap.size+1+1+1<w2.heap.size:=bQ;have z24:w.heap.size+1+1+1+1<w2.heap.size:=bQ;have z25:w.heap.size+1+1+1+1+1<w2.heap.size:=bQ)
  have y2a:w.heap.size<w2.heap.size:=bQ
  have afy:w2.cell? ⟨w.heap.size,0,none⟩=some (aU (al)):=ajR
  have aqR:w2.frozen? ⟨w.heap.size,0,none⟩=false:=anl
  have afE:w2.cell? ⟨w.heap.size,1,none⟩=some (aU (ah)):=ajT
  have aqS:w2.frozen? ⟨w.heap.size,1,none⟩=false:=anm
  have y2b:w.heap.size+1<w2.heap.size:=bQ
  have afJ:w2.cell? ⟨w.heap.size+1,0,none⟩=some (aU (bl)):=ajU
  have afM:w2.cell? ⟨w.heap.size+1,1,none⟩=some (aU (bh)):=ajV
  have y2r:w.heap.size+1+1<w2.heap.size:=bQ
  have afN:w2.cell? ⟨w.heap.size+1+1,0,none⟩=some (aU (0)):=ajW
  have anX:w2.frozen? ⟨w.heap.size+1+1,0,none⟩=false:=ajX
  have afP:w2.cell? ⟨w.heap.size+1+1,1,none⟩=some (aU (0)):=ajY
  have anY:w2.frozen? ⟨w.heap.size+1+1,1,none⟩=false:=ajZ
  have y2s:w.heap.size+1+1+1<w2.heap.size:=bQ
  have afQ:w2.cell? ⟨w.heap.size+1+1+1,0,none⟩=some (aU (0)):=aj0
  have anZ:w2.frozen? ⟨w.heap.size+1+1+1,0,none⟩=false:=aj1
  have afR:w2.cell? ⟨w.heap.size+1+1+1,1,none⟩=some (aU (0)):=aj2
  have an0:w2.frozen? ⟨w.heap.size+1+1+1,1,none⟩=false:=aj3
  have y2n:w.heap.size+1+1+1+1<w2.heap.size:=bQ
  have am9:w2.cell? ⟨w.heap.size+1+1+1+1,0,none⟩=some (aU (0)):=ano
  have ana:w2.cell? ⟨w.heap.size+1+1+1+1,1,none⟩=some (aU (0)):=anp
  have y2x:w1.heap.size<w2.heap.size:=bQ
  have anb:w2.cell? ⟨w1.heap.size,0,none⟩=some (aU (Ie)):=Zz
  have anc:w2.cell? ⟨w1.heap.size,1,none⟩=some (aU (Ig)):=Zz
  clear hc2 hf2
  go_wp2_with fail
  go_region
  go_wp2_with fail
  exact bodyPost_ret (v:=.tuple #[.agg #[aU (0),aU (0)],.agg #[aU (0),aU (0)],.bool (false)]) am8 rfl ⟨by first|rfl|(simp[kK,BF];done),Uu⟩
 ·go_enter Tryz.func146,Tryz.ntmps146
  go_wp2_with fail
  go_quiet (fail)
  go_wp2_with fail
  refine(YA _ _ _ _ _).mono ?_
  rw[HM1.out]
  (rintro e w1 ⟨rfl,hb⟩;obtain⟨hc1,hf1⟩:=jd hb;have hz1:=hb.size;(try simp at hz1);have HW1:=bW (show Below w.heap.size w w1 from Below.trans gI (hb.mono fD));clear hb;have z10:w.heap.size<w1.heap.size:=bQ;have z11:w.heap.size+1<w1.heap.size:=bQ;have z12:w.heap.size+1+1<w1.heap.size:=bQ;have z13:w.heap.size+1+1+1<w1.heap.size:=bQ;have NT:w.heap.size+1+1+1+1<w1.heap.size:=bQ)
  have zG:w.heap.size<w1.heap.size:=bQ
  have Uz:w1.cell? ⟨w.heap.size,0,none⟩=some (aU (al)):=jW
  have XM:w1.frozen? ⟨w.heap.size,0,none⟩=false:=ru
  have UA:w1.cell? ⟨w.heap.size,1,none⟩=some (aU (ah)):=jW
  have XP:w1.frozen? ⟨w.heap.size,1,none⟩=false:=ru
  have zH:w.heap.size+1<w1.heap.size:=bQ
  have UC:w1.cell? ⟨w.heap.size+1,0,none⟩=some (aU (bl)):=jW
  have UD:w1.cell? ⟨w.heap.size+1,1,none⟩=some (aU (bh)):=jW
  have zI:w.heap.size+1+1<w1.heap.size:=bQ
  have UE:w1.cell? ⟨w.heap.size+1+1,0,none⟩=some (aU (0)):=jW
  have XR:w1.frozen? ⟨w.heap.size+1+1,0,none⟩=false:=ru
  have UF:w1.cell? ⟨w.heap.size+1+1,1,none⟩=some (aU (0)):=jW
  have XT:w1.frozen? ⟨w.heap.size+1+1,1,none⟩=false:=ru
  have zJ:w.heap.size+1+1+1<w1.heap.size:=bQ
  have UG:w1.cell? ⟨w.heap.size+1+1+1,0,none⟩=some (aU (0)):=jW
  have XU:w1.frozen? ⟨w.heap.size+1+1+1,0,none⟩=false:=ru
  have UH:w1.cell? ⟨w.heap.size+1+1+1,1,none⟩=some (aU (0)):=jW
  have XV:w1.frozen? ⟨w.heap.size+1+1+1,1,none⟩=false:=ru
  have zK:w.heap.size+1+1+1+1<w1.heap.size:=bQ
  have UJ:w1.cell? ⟨w.heap.size+1+1+1+1,0,none⟩=some (aU (0)):=jW
  have UK:w1.cell? ⟨w.heap.size+1+1+1+1,1,none⟩=some (aU (0)):=jW
  clear hc1 hf1
  go_wp2_with fail
  refine(YA _ _ _ _ _).mono ?_
  rw[Fz.out]
  (rintro e w2 ⟨rfl,hb⟩;obtain⟨hc2,hf2⟩:=jd hb;have hz2:=hb.size;(try simp at hz2);have HW2:=bW (show Below w.heap.size w w2 from Below.trans jZ (hb.mono fD));clear hb;have z20:w.heap.size<w2.heap.size:=bQ;have z21:w.heap.size+1<w2.heap.size:=bQ;have z22:w.heap.size+1+1<w2.heap.size:=bQ;have z23:w.heap.size+1+1+1<w2.heap.size:=bQ;have z24:w.heap.size+1+1+1+1<w2.heap.size:=bQ;have z25:w.heap.size+1+1+1+1+1<w2.heap.size:=bQ)
  have y2a:w.heap.size<w2.heap.size:=bQ
  have afy:w2.cell? ⟨w.heap.size,0,none⟩=some (aU (al)):=ajR
  have aqR:w2.frozen? ⟨w.heap.size,0,none⟩=false:=anl
  have afE:w2.cell? ⟨w.heap.size,1,none⟩=some (aU (ah)):=ajT
  have aqS:w2.frozen? ⟨w.heap.size,1,none⟩=false:=anm
  have y2b:w.heap.size+1<w2.heap.size:=bQ
  have afJ:w2.cell? ⟨w.heap.size+1,0,none⟩=some (aU (bl)):=ajU
  have afM:w2.cell? ⟨w.heap.size+1,1,none⟩=some (aU (bh)):=ajV
  have y2r:w.heap.size+1+1<w2.heap.size:=bQ
  have afN:w2.cell? ⟨w.heap.size+1+1,0,none⟩=some (aU (0)):=ajW
  have anX:w2.frozen? ⟨w.heap.size+1+1,0,none⟩=false:=ajX
  have afP:w2.cell? ⟨w.heap.size+1+1,1,none⟩=some (aU (0)):=ajY
  have anY:w2.frozen? ⟨w.heap.size+1+1,1,none⟩=false:=ajZ
  have y2s:w.heap.size+1+1+1<w2.heap.size:=bQ
  have afQ:w2.cell? ⟨w.heap.size+1+1+1,0,none⟩=some (aU (0)):=aj0
  have anZ:w2.frozen? ⟨w.heap.size+1+1+1,0,none⟩=false:=aj1
  have afR:w2.cell? ⟨w.heap.size+1+1+1,1,none⟩=some (aU (0)):=aj2
  have an0:w2.frozen? ⟨w.heap.size+1+1+1,1,none⟩=false:=aj3
  have y2n:w.heap.size+1+1+1+1<w2.heap.size:=bQ
  have am9:w2.cell? ⟨w.heap.size+1+1+1+1,0,none⟩=some (aU (0)):=ano
  have ana:w2.cell? ⟨w.heap.size+1+1+1+1,1,none⟩=some (aU (0)):=anp
  have y2x:w1.heap.size<w2.heap.size:=bQ
  have anb:w2.cell? ⟨w1.heap.size,0,none⟩=some (aU (Ie)):=Zz
  have anc:w2.cell? ⟨w1.heap.size,1,none⟩=some (aU (Ig)):=Zz
  clear hc2 hf2
  go_wp2_with fail
  go_region
  go_wp2_with fail
  exact bodyPost_ret (v:=.tuple #[.agg #[aU (0),aU (0)],.agg #[aU (0),aU (0)],.bool (false)]) am8 rfl ⟨by first|rfl|(simp[kK,BF];done),Uu⟩
 ·go_enter Tryz.func146,Tryz.ntmps146
  go_wp2_with fail
  go_quiet (fail)
  go_wp2_with fail
  refine(YA _ _ _ _ _).mono ?_
  rw[HM1.out]
  (rintro e w1 ⟨rfl,hb⟩;obtain⟨hc1,hf1⟩:=jd hb;have hz1:=hb.size;(try simp at hz1);have HW1:=bW (show Below w.heap.size w w1 from Below.trans gI (hb.mono fD));clear hb;have z10:w.heap.size<w1.heap.size:=bQ;have z11:w.heap.size+1<w1.heap.size:=bQ;have z12:w.heap.size+1+1<w1.heap.size:=bQ;have z13:w.heap.size+1+1+1<w1.heap.size:=bQ;have NT:w.heap.size+1+1+1+1<w1.heap.size:=bQ)
  have zG:w.heap.size<w1.heap.size:=bQ
  have Uz:w1.cell? ⟨w.heap.size,0,none⟩=some (aU (al)):=jW
  have XM:w1.frozen? ⟨w.heap.size,0,none⟩=false:=ru
  have UA:w1.cell? ⟨w.heap.size,1,none⟩=some (aU (ah)):=jW
  have XP:w1.frozen? ⟨w.heap.size,1,none⟩=false:=ru
  have zH:w.heap.size+1<w1.heap.size:=bQ
  have UC:w1.cell? ⟨w.heap.size+1,0,none⟩=some (aU (bl)):=jW
  have UD:w1.cell? ⟨w.heap.size+1,1,none⟩=some (aU (bh)):=jW
  have zI:w.heap.size+1+1<w1.heap.size:=bQ
  have UE:w1.cell? ⟨w.heap.size+1+1,0,none⟩=some (aU (0)):=jW
  have XR:w1.frozen? ⟨w.heap.size+1+1,0,none⟩=false:=ru
  have UF:w1.cell? ⟨w.heap.size+1+1,1,none⟩=some (aU (0)):=jW
  have XT:w1.frozen? ⟨w.heap.size+1+1,1,none⟩=false:=ru
  have zJ:w.heap.size+1+1+1<w1.heap.size:=bQ
  have UG:w1.cell? ⟨w.heap.size+1+1+1,0,none⟩=some (aU (0)):=jW
  have XU:w1.frozen? ⟨w.heap.size+1+1+1,0,none⟩=false:=ru
  have UH:w1.cell? ⟨w.heap.size+1+1+1,1,none⟩=some (aU (0)):=jW
  have XV:w1.frozen? ⟨w.heap.size+1+1+1,1,none⟩=false:=ru
  have zK:w.heap.size+1+1+1+1<w1.heap.size:=bQ
  have UJ:w1.cell? ⟨w.heap.size+1+1+1+1,0,none⟩=some (aU (0)):=jW
  have UK:w1.cell? ⟨w.heap.size+1+1+1+1,1,none⟩=some (aU (0)):=jW
  clear hc1 hf1
  go_wp2_with fail
  refine(YA _ _ _ _ _).mono ?_
  rw[Fz.out]
  (rintro e w2 ⟨rfl,hb⟩;obtain⟨hc2,hf2⟩:=jd hb;have hz2:=hb.size;(try simp at hz2);have HW2:=bW (show Below w.heap.size w w2 from Below.trans jZ (hb.mono fD));clear hb;have z20:w.heap.size<w2.heap.size:=bQ;have z21:w.heap.size+1<w2.heap.size:=bQ;have z22:w.heap.size+1+1<w2.heap.size:=bQ;have z23:w.heap.size+1+1+1<w2.heap.size:=bQ;have z24:w.heap.size+1+1+1+1<w2.heap.size:=bQ;have z25:w.heap.size+1+1+1+1+1<w2.heap.size:=bQ)
  have y2a:w.heap.size<w2.heap.size:=bQ
  have afy:w2.cell? ⟨w.heap.size,0,none⟩=some (aU (al)):=ajR
  have aqR:w2.frozen? ⟨w.heap.size,0,none⟩=false:=anl
  have afE:w2.cell? ⟨w.heap.size,1,none⟩=some (aU (ah)):=ajT
  have aqS:w2.frozen? ⟨w.heap.size,1,none⟩=false:=anm
  have y2b:w.heap.size+1<w2.heap.size:=bQ
  have afJ:w2.cell? ⟨w.heap.size+1,0,none⟩=some (aU (bl)):=ajU
  have afM:w2.cell? ⟨w.heap.size+1,1,none⟩=some (aU (bh)):=ajV
  have y2r:w.heap.size+1+1<w2.heap.size:=bQ
  have afN:w2.cell? ⟨w.heap.size+1+1,0,none⟩=some (aU (0)):=ajW
  have anX:w2.frozen? ⟨w.heap.size+1+1,0,none⟩=false:=ajX
  have afP:w2.cell? ⟨w.heap.size+1+1,1,none⟩=some (aU (0)):=ajY
  have anY:w2.frozen? ⟨w.heap.size+1+1,1,none⟩=false:=ajZ
  have y2s:w.heap.size+1+1+1<w2.heap.size:=bQ
  have afQ:w2.cell? ⟨w.heap.size+1+1+1,0,none⟩=some (aU (0)):=aj0
  have anZ:w2.frozen? ⟨w.heap.size+1+1+1,0,none⟩=false:=aj1
  have afR:w2.cell? ⟨w.heap.size+1+1+1,1,none⟩=some (aU (0)):=aj2
  have an0:w2.frozen? ⟨w.heap.size+1+1+1,1,none⟩=false:=aj3
  have y2n:w.heap.size+1+1+1+1<w2.heap.size:=bQ
  have am9:w2.cell? ⟨w.heap.size+1+1+1+1,0,none⟩=some (aU (0)):=ano
  have ana:w2.cell? ⟨w.heap.size+1+1+1+1,1,none⟩=some (aU (0)):=anp
  have y2x:w1.heap.size<w2.heap.size:=bQ
  have anb:w2.cell? ⟨w1.heap.size,0,none⟩=some (aU (Ie)):=Zz
  have anc:w2.cell? ⟨w1.heap.size,1,none⟩=some (aU (Ig)):=Zz
  clear hc2 hf2
  go_wp2_with fail
  go_region
  go_wp2_with fail
  exact bodyPost_ret (v:=.tuple #[.agg #[aU (0),aU (0)],.agg #[aU (0),aU (0)],.bool (false)]) am8 rfl ⟨by first|rfl|(simp[kK,BF];done),Uu⟩
 ·go_enter Tryz.func146,Tryz.ntmps146
  go_wp2_with fail
  go_quiet (fail)
  go_wp2_with fail
  refine(YA _ _ _ _ _).mono ?_
  rw[HM1.out]
  (rintro e w1 ⟨rfl,hb⟩;obtain⟨hc1,hf1⟩:=jd hb;have hz1:=hb.size;(try simp at hz1);have HW1:=bW (show Below w.heap.size w w1 from Below.trans gI (hb.mono fD));clear hb;have z10:w.heap.size<w1.heap.size:=bQ;have z11:w.heap.size+1<w1.heap.size:=bQ;have z12:w.heap.size+1+1<w1.heap.size:=bQ;have z13:w.heap.size+1+1+1<w1.heap.size:=bQ;have NT:w.heap.size+1+1+1+1<w1.heap.size:=bQ)
  have zG:w.heap.size<w1.heap.size:=bQ
  have Uz:w1.cell? ⟨w.heap.size,0,none⟩=some (aU (al)):=jW
  have XM:w1.frozen? ⟨w.heap.size,0,none⟩=false:=ru
  have UA:w1.cell? ⟨w.heap.size,1,none⟩=some (aU (ah)):=jW
  have XP:w1.frozen? ⟨w.heap.size,1,none⟩=false:=ru
  have zH:w.heap.size+1<w1.heap.size:=bQ
  have UC:w1.cell? ⟨w.heap.size+1,0,none⟩=some (aU (bl)):=jW
  have UD:w1.cell? ⟨w.heap.size+1,1,none⟩=some (aU (bh)):=jW
  have zI:w.heap.size+1+1<w1.heap.size:=bQ
  have UE:w1.cell? ⟨w.heap.size+1+1,0,none⟩=some (aU (0)):=jW
  have XR:w1.frozen? ⟨w.heap.size+1+1,0,none⟩=false:=ru
  have UF:w1.cell? ⟨w.heap.size+1+1,1,none⟩=some (aU (0)):=jW
  have XT:w1.frozen? ⟨w.heap.size+1+1,1,none⟩=false:=ru
  have zJ:w.heap.size+1+1+1<w1.heap.size:=bQ
  have UG:w1.cell? ⟨w.heap.size+1+1+1,0,none⟩=some (aU (0)):=jW
  have XU:w1.frozen? ⟨w.heap.size+1+1+1,0,none⟩=false:=ru
  have UH:w1.cell? ⟨w.heap.size+1+1+1,1,none⟩=some (aU (0)):=jW
  have XV:w1.frozen? ⟨w.heap.size+1+1+1,1,none⟩=false:=ru
  have zK:w.heap.size+1+1+1+1<w1.heap.size:=bQ
  have UJ:w1.cell? ⟨w.heap.size+1+1+1+1,0,none⟩=some (aU (0)):=jW
  have UK:w1.cell? ⟨w.heap.size+1+1+1+1,1,none⟩=some (aU (0)):=jW
  clear hc1 hf1
  go_wp2_with fail
  refine(YA _ _ _ _ _).mono ?_
  rw[Fz.out]
  (rintro e w2 ⟨rfl,hb⟩;obtain⟨hc2,hf2⟩:=jd hb;have hz2:=hb.size;(try simp at hz2);have HW2:=bW (show Below w.heap.size w w2 from Below.trans jZ (hb.mono fD));clear hb;have z20:w.heap.size<w2.heap.size:=bQ;have z21:w.heap.size+1<w2.heap.size:=bQ;have z22:w.heap.size+1+1<w2.heap.size:=bQ;have z23:w.heap.size+1+1+1<w2.heap.size:=bQ;have z24:w.heap.size+1+1+1+1<w2.heap.size:=bQ;have z25:w.heap.size+1+1+1+1+1<w2.heap.size:=bQ)
  have y2a:w.heap.size<w2.heap.size:=bQ
  have afy:w2.cell? ⟨w.heap.size,0,none⟩=some (aU (al)):=ajR
  have aqR:w2.frozen? ⟨w.heap.size,0,none⟩=false:=anl
  have afE:w2.cell? ⟨w.heap.size,1,none⟩=some (aU (ah)):=ajT
  have aqS:w2.frozen? ⟨w.heap.size,1,none⟩=false:=anm
  have y2b:w.heap.size+1<w2.heap.size:=bQ
  have afJ:w2.cell? ⟨w.heap.size+1,0,none⟩=some (aU (bl)):=ajU
  have afM:w2.cell? ⟨w.heap.size+1,1,none⟩=some (aU (bh)):=ajV
  have y2r:w.heap.size+1+1<w2.heap.size:=bQ
  have afN:w2.cell? ⟨w.heap.size+1+1,0,none⟩=some (aU (0)):=ajW
  have anX:w2.frozen? ⟨w.heap.size+1+1,0,none⟩=false:=ajX
  have afP:w2.cell? ⟨w.heap.size+1+1,1,none⟩=some (aU (0)):=ajY
  have anY:w2.frozen? ⟨w.heap.size+1+1,1,none⟩=false:=ajZ
  have y2s:w.heap.size+1+1+1<w2.heap.size:=bQ
  have afQ:w2.cell? ⟨w.heap.size+1+1+1,0,none⟩=some (aU (0)):=aj0
  have anZ:w2.frozen? ⟨w.heap.size+1+1+1,0,none⟩=false:=aj1
  have afR:w2.cell? ⟨w.heap.size+1+1+1,1,none⟩=some (aU (0)):=aj2
  have an0:w2.frozen? ⟨w.heap.size+1+1+1,1,none⟩=false:=aj3
  have y2n:w.heap.size+1+1+1+1<w2.heap.size:=bQ
  have am9:w2.cell? ⟨w.heap.size+1+1+1+1,0,none⟩=some (aU (0)):=ano
  have ana:w2.cell? ⟨w.heap.size+1+1+1+1,1,none⟩=some (aU (0)):=anp
  have y2x:w1.heap.size<w2.heap.size:=bQ
  have anb:w2.cell? ⟨w1.heap.size,0,none⟩=some (aU (Ie)):=Zz
  have anc:w2.cell? ⟨w1.heap.size,1,none⟩=some (aU (Ig)):=Zz
  clear hc2 hf2
  go_wp2_with fail
  go_region
  go_wp2_with fail
  exact bodyPost_ret (v:=.tuple #[.agg #[aU (Ie),aU (Ig)],.agg #[aU (m2l),aU (m2h)],.bool (true)]) am8 rfl ⟨by first|rfl|(simp[kK,BF];done),Uu⟩):p:=h
theorem aCQ(h:p:=by
 obtain⟨dl,dh⟩:=d
 have hd:((⟨dl,dh⟩:B)=fP)↔(dl=-9223372036854775808∧dh=9223372036854775807):=by unfold fP;simp
 have HD:=bW hd
 clear oa ob hd
 have CA:=bW (show ∀ wd dr os,Calls Tryz.prog 153 #[] (Go.Sort.grow (redrawn wd dr) os) fun e w'=>e=.returned (.agg #[aU (-9223372036854775808),aU 9223372036854775807])∧∃ p:Regrown,w'=Go.Sort.grow (redrawn wd p.d) p.os from fun wd dr os=>Calls.regrown_of (yP _))
 go_enter Tryz.func115,Tryz.ntmps115
 go_wp2_with fail
 refine(C.out _).mono ?_
 (rintro e w1 ⟨rfl,hb⟩;obtain⟨hc1,hf1⟩:=jd hb;have hz1:=hb.size;(try simp at hz1);have HW1:=bW (show Below w.heap.size w w1 from Below.trans gI (hb.mono fD));clear hb;have z10:w.heap.size<w1.heap.size:=bQ;have z11:w.heap.size+1<w1.heap.size:=bQ;have z12:w.heap.size+1+1<w1.heap.size:=bQ)
 (have rQ:w1.cell? ⟨w.heap.size,0,none⟩=some (aU ka):=fH;have uM:w1.frozen? ⟨w.heap.size,0,none⟩=false:=fO;have uN:w1.cell? ⟨w.heap.size,1,none⟩=some (aU la):=fH;have uO:w1.frozen? ⟨w.heap.size,1,none⟩=false:=fO;have yU:w1.cell? ⟨w.heap.size,2,none⟩=some (aU ha):=fH;have yX:w1.frozen? ⟨w.heap.size,2,none⟩=false:=fO)
 (have zX:w1.cell? ⟨w.heap.size+1,0,none⟩=some (aU 1):=fH;have zZ:w1.frozen? ⟨w.heap.size+1,0,none⟩=false:=fO;have Af:w1.cell? ⟨w.heap.size+1,1,none⟩=some (aU lb):=fH;have Ah:w1.frozen? ⟨w.heap.size+1,1,none⟩=false:=fO;have Ai:w1.cell? ⟨w.heap.size+1,2,none⟩=some (aU hb):=fH;have Aj:w1.frozen? ⟨w.heap.size+1,2,none⟩=false:=fO)
 (have Tf:w1.cell? ⟨w.heap.size+1+1,0,none⟩=some (aU 0):=fH;have Ti:w1.frozen? ⟨w.heap.size+1+1,0,none⟩=false:=fO;have Tj:w1.cell? ⟨w.heap.size+1+1,1,none⟩=some (aU 0):=fH;have Tm:w1.frozen? ⟨w.heap.size+1+1,1,none⟩=false:=fO;have Tn:w1.cell? ⟨w.heap.size+1+1,2,none⟩=some (aU 0):=fH;have Tq:w1.frozen? ⟨w.heap.size+1+1,2,none⟩=false:=fO)
 clear hc1 hf1
 go_wp2_with fail
 generalize hW:World.alloc w1 _=wd
 have HB1:=bW (show Below w.heap.size w wd from hW▸HW1.out.alloc bQ _)
 have zd:w1.heap.size<wd.heap.size:=OC
 have d0:wd.cell? ⟨w1.heap.size,0,none⟩=some (aU dl):=qY
 have d1:wd.cell? ⟨w1.heap.size,1,none⟩=some (aU dh):=qY
 have hb2:Below w1.heap.size w1 wd:=hW▸(Below.refl _ _).alloc (Nat.le_refl _) _
 have a0:=(hb2.cell (p:=⟨w.heap.size,0,none⟩) z10).trans rQ
 have b0:=(hb2.cell (p:=⟨w.heap.size+1+1,0,none⟩) z12).trans Tf
 have b1:=(hb2.cell (p:=⟨w.heap.size+1+1,1,none⟩) z12).trans Tj
 have b2:=(hb2.cell (p:=⟨w.heap.size+1+1,2,none⟩) z12).trans Tn
 have c0:=(hb2.frozen (p:=⟨w.heap.size+1+1,0,none⟩) z12).trans Ti
 have c1:=(hb2.frozen (p:=⟨w.heap.size+1+1,1,none⟩) z12).trans Tm
 have c2:=(hb2.frozen (p:=⟨w.heap.size+1+1,2,none⟩) z12).trans Tq
 have z0:w.heap.size<wd.heap.size:=bQ
 have z2:w.heap.size+1+1<wd.heap.size:=bQ
 clear hW hb2 rQ uM uN uO yU yX zX zZ Af Ah Ai Aj Tf Ti Tj Tm Tn Tq
 have k0:=cell_regrown d0;have k1:=cell_regrown d1
 refine OD 2 dF dF ?_
 repeat (quiet_step (first|exact CA.out _ _ _))
 refine wpQuiet_nil ?_
 intro wq hwq
 have hbq:Below wd.heap.size wd wq:=by
  obtain⟨p,hp⟩:=hwq
  rw[hp];exact below_regrown _ _ _
 clear hwq k0 k1
 replace d0:=(hbq.cell (p:=⟨w1.heap.size,0,none⟩) zd).trans d0
 replace d1:=(hbq.cell (p:=⟨w1.heap.size,1,none⟩) zd).trans d1
 replace a0:=(hbq.cell (p:=⟨w.heap.size,0,none⟩) z0).trans a0
 replace b0:=(hbq.cell (p:=⟨w.heap.size+1+1,0,none⟩) z2).trans b0
 replace b1:=(hbq.cell (p:=⟨w.heap.size+1+1,1,none⟩) z2).trans b1
 replace b2:=(hbq.cell (p:=⟨w.heap.size+1+1,2,none⟩) z2).trans b2
 replace c0:=(hbq.frozen (p:=⟨w.heap.size+1+1,0,none⟩) z2).trans c0
 replace c1:=(hbq.frozen (p:=⟨w.heap.size+1+1,1,none⟩) z2).trans c1
 replace c2:=(hbq.frozen (p:=⟨w.heap.size+1+1,2,none⟩) z2).trans c2
 have HWQ:=bW (HB1.out.trans (hbq.mono bQ))
 have y0:w.heap.size<wq.heap.size:=by have:=hbq.size;omega
 clear hbq HB1 HW1
 by_cases e:dl=-9223372036854775808∧dh=9223372036854775807
 ·have yes:=bW (HD.out.2 e)
  obtain⟨rfl,rfl⟩:=e
  go_wp2_with fail
  refine bodyPost_ret (v:=.tuple #[.agg #[aU 0,aU 0,aU 0],aU 2]) ?_ rfl ⟨by have ye:=yes.out;first|rfl|simp[ye],ajI⟩
  simp[results,Tryz.results115,go_sem, *]
 ·have NE:=bW (show¬((⟨dl,dh⟩:B)=fP)from fun h=>e (HD.out.1 h))
  clear HD
  by_cases e1:dl=-9223372036854775808
  ·have e2:¬dh=9223372036854775807:=fun h=>e ⟨e1,h⟩
   subst e1
   have e3:=En e2
   clear e e2
   go_wp2_with fail
   refine bodyPost_ret (v:=.tuple #[.agg #[aU ka,aU (-9223372036854775808),aU dh],aU 0]) ?_ rfl ⟨by have ne:=NE.out;first|rfl|simp[ne],ajI⟩
   simp[results,Tryz.results115,go_sem, *]
  ·have e3:=En e1
   clear e e1
   go_wp2_with fail
   refine bodyPost_ret (v:=.tuple #[.agg #[aU ka,aU dl,aU dh],aU 0]) ?_ rfl ⟨by have ne:=NE.out;first|rfl|simp[ne],ajI⟩
   simp[results,Tryz.results115,go_sem, *]):p:=h
theorem azL(h:p:=by
 have HM1:=bW hm1
 have Fz:=bW hm2
 clear hm1 hm2
 obtain⟨⟨Ie,Ig⟩,m1b⟩:=m1
 obtain⟨⟨m2l,m2h⟩,m2b⟩:=m2
 have HW0:=bW (Below.refl w.heap.size w)
 cases m1b<;>cases m2b
 all_goals
  go_enter Tryz.func183,Tryz.ntmps183
  go_wp2_with fail
  go_quiet (fail)
  go_wp2_with fail
  refine(amR _ _ _ _ _).mono ?_
  rw[HM1.out]
  refine atw ?_;intro w1 hz1 HW1 z10 z11 z12 z13 OE V7 OG V9 OH Wn OI Wp Rt Yl Ru Ym OJ Wq OL Ws
  go_wp2_with fail
  refine(amR _ _ _ _ _).mono ?_
  rw[Fz.out]
  (rintro e w2 ⟨rfl,hb⟩;obtain⟨hc2,hf2⟩:=jd hb;have hz2:=hb.size;(try simp at hz2);have HW2:=bW (show Below w.heap.size w w2 from Below.trans jZ (hb.mono fD));clear hb;have z20:w.heap.size<w2.heap.size:=bQ;have z21:w.heap.size+1<w2.heap.size:=bQ;have z22:w.heap.size+1+1<w2.heap.size:=bQ;have z23:w.heap.size+1+1+1<w2.heap.size:=bQ)
  have amS:w2.cell? ⟨w.heap.size,0,none⟩=some (aU (Ie)):=Og
  have aty:w2.frozen? ⟨w.heap.size,0,none⟩=false:=Oh
  have amT:w2.cell? ⟨w.heap.size,1,none⟩=some (aU (Ig)):=Og
  have atz:w2.frozen? ⟨w.heap.size,1,none⟩=false:=Oh
  have amU:w2.cell? ⟨w.heap.size+1,0,none⟩=some (aU (bl)):=Og
  have atA:w2.frozen? ⟨w.heap.size+1,0,none⟩=false:=Oh
  have amV:w2.cell? ⟨w.heap.size+1,1,none⟩=some (aU (bh)):=Og
  have atB:w2.frozen? ⟨w.heap.size+1,1,none⟩=false:=Oh
  have amW:w2.cell? ⟨w.heap.size+1+1,0,none⟩=some (aU (0)):=Og
  have atC:w2.frozen? ⟨w.heap.size+1+1,0,none⟩=false:=Oh
  have amX:w2.cell? ⟨w.heap.size+1+1,1,none⟩=some (aU (0)):=Og
  have atG:w2.frozen? ⟨w.heap.size+1+1,1,none⟩=false:=Oh
  have amY:w2.cell? ⟨w.heap.size+1+1+1,0,none⟩=some (aU (0)):=Og
  have atH:w2.frozen? ⟨w.heap.size+1+1+1,0,none⟩=false:=Oh
  have amZ:w2.cell? ⟨w.heap.size+1+1+1,1,none⟩=some (aU (0)):=Og
  have atI:w2.frozen? ⟨w.heap.size+1+1+1,1,none⟩=false:=Oh
  clear hc2 hf2
  go_wp2_with fail
  first
  |exact bodyPost_ret (v:=.tuple #[.agg #[aU 0,aU 0],.agg #[aU 0,aU 0],.bool false]) aA4 rfl ⟨by simp[kK],Uu⟩
  |(go_region;go_wp2_with fail;exact bodyPost_ret (v:=.tuple #[.agg #[aU (Ie),aU (Ig)],.agg #[aU (m2l),aU (m2h)],.bool true]) aA4 rfl ⟨by simp,Uu⟩)):p:=h
theorem aBY(h:p:=by
 have ke:=auD bl
 have k0:(0:Int)≤(sh bl:Int):=bQ
 have k1:(sh bl:Int)≤63:=auC
 have IK:=bW (show In64 (sh bl:Int)by unfold In64;omega)
 have IA:=bW ia;have Eu:=bW eP
 have D1:=bW (Yx (c:=10) ia IK.out);have D2:=bW (Yx (c:=10) eP IK.out)
 by_cases h1:bl=bh
 ·by_cases h2:P.does 12 (P.does 10 al (sh bl:Int)) (sh bl:Int)=al
  ·by_cases h3:P.does 12 (P.does 10 ah (sh bl:Int)) (sh bl:Int)=ah
   ·have e:dV 10 ⟨al,ah⟩ ⟨bl,bh⟩=⟨P.does 10 al (sh bl:Int),P.does 10 ah (sh bl:Int)⟩:=(aqP ⟨al,ah⟩ ⟨bl,bh⟩).symm.trans (by unfold akG rk;simp only;rw[dB ⟨h1,h2,h3⟩])
    rw[e]
    clear e
    have t1:(bl==bh)=true:=AO
    have t2:(P.does 12 (P.does 10 al (sh bl:Int)) (sh bl:Int)==al)=true:=Yy
    have t3:(P.does 12 (P.does 10 ah (sh bl:Int)) (sh bl:Int)==ah)=true:=YO
    clear h1 h2 h3
    clear ia eP ib ib2 ha hb
    go_enter Tryz.func147,Tryz.ntmps147
    go_wp2_with fail
    go_quiet (first|(go_at_call 156;refine Calls.quiet_of_same ((adi _ _ _ aqf IK.out _).mono (fun _ _ h=>⟨h.1,h.2.symm⟩))))
    go_wp2_with fail
    go_quiet (first|(go_at_call 180;exact aqv (akI _ _ aqj IK.out _)))
    go_wp2_with fail
    exact bodyPost_ret (v:=.agg #[aU (P.does 10 al (sh bl:Int)),aU (P.does 10 ah (sh bl:Int))]) Df rfl ⟨rfl,gI⟩
   ·have e:dV 10 ⟨al,ah⟩ ⟨bl,bh⟩=⟨(-9223372036854775808),9223372036854775807⟩:=(aqP ⟨al,ah⟩ ⟨bl,bh⟩).symm.trans (by unfold akG rk;simp only;rw[dw (fun x=>h3 x.2.2)];rfl)
    rw[e]
    clear e
    have t1:(bl==bh)=true:=AO
    have t2:(P.does 12 (P.does 10 al (sh bl:Int)) (sh bl:Int)==al)=true:=Yy
    have t3:(P.does 12 (P.does 10 ah (sh bl:Int)) (sh bl:Int)==ah)=false:=YO
    clear h1 h2 h3
    clear ia eP ib ib2 ha hb
    go_enter Tryz.func147,Tryz.ntmps147
    go_wp2_with fail
    go_quiet (first|(go_at_call 156;refine Calls.quiet_of_same ((adi _ _ _ aqf IK.out _).mono (fun _ _ h=>⟨h.1,h.2.symm⟩))))
    go_wp2_with fail
    go_quiet (first|(go_at_call 180;exact aqv (akI _ _ aqj IK.out _)))
    go_wp2_with fail
    exact am4
  ·have e:dV 10 ⟨al,ah⟩ ⟨bl,bh⟩=⟨(-9223372036854775808),9223372036854775807⟩:=(aqP ⟨al,ah⟩ ⟨bl,bh⟩).symm.trans (by unfold akG rk;simp only;rw[dw (fun x=>h2 x.2.1)];rfl)
   rw[e]
   clear e
   have t1:(bl==bh)=true:=AO
   have t2:(P.does 12 (P.does 10 al (sh bl:Int)) (sh bl:Int)==al)=false:=Yy
   clear h1 h2
   clear ia eP ib ib2 ha hb
   go_enter Tryz.func147,Tryz.ntmps147
   go_wp2_with fail
   go_quiet (first|(go_at_call 156;refine Calls.quiet_of_same ((adi _ _ _ aqf IK.out _).mono (fun _ _ h=>⟨h.1,h.2.symm⟩))))
   go_wp2_with fail
   go_quiet (first|(go_at_call 180;exact aqv (akI _ _ aqj IK.out _)))
   go_wp2_with fail
   exact am4
 ·have e:dV 10 ⟨al,ah⟩ ⟨bl,bh⟩=⟨(-9223372036854775808),9223372036854775807⟩:=(aqP ⟨al,ah⟩ ⟨bl,bh⟩).symm.trans (by unfold akG rk;simp only;rw[dw (fun x=>h1 x.1)];rfl)
  rw[e]
  clear e
  have t1:(bl==bh)=false:=AO
  clear h1
  clear ia eP ib ib2 ha hb
  go_enter Tryz.func147,Tryz.ntmps147
  go_wp2_with fail
  go_quiet (first|(go_at_call 156;refine Calls.quiet_of_same ((adi _ _ _ aqf IK.out _).mono (fun _ _ h=>⟨h.1,h.2.symm⟩))))
  go_wp2_with fail
  go_quiet (first|(go_at_call 180;exact aqv (akI _ _ aqj IK.out _)))
  go_wp2_with fail
  exact am4):p:=h
theorem aCR(h:p:=by
 have HRR:=bW hR2
 clear hR2
 clear Zw Zx Gv H8 hR hA JM
 generalize kl (M.regs d).kind=ak at *
 generalize kl y.kind=yk at *
 go_wp2_with (go_at_call 58;refine(mg _ _).mono ?_;rintro e w' ⟨rfl,rfl⟩;rw[jX])
 go_region
 all_goals go_wp2_with (go_at_call 58;refine(mg _ _).mono ?_;rintro e w' ⟨rfl,rfl⟩;rw[jX])
 generalize hW:World.drew wd=we
 have HIe:Hid (Img we b 109 (kZ told time num st out M)):=bW (by rw[←hW];exact HI.out.drew)
 have aKW:Hid (we.ownsRow (b+1) 2 1 out M.out.length (M.out.map (Value.int .i64))):=bW (by rw[←hW];exact World.ownsRow.drew HOW.out)
 have HWe:Hid (Below b w we):=bW (by rw[←hW];exact(HWd.out.mono (Nat.le_of_lt zb)).drew)
 have f0':we.cell? ⟨w.heap.size,0,none⟩=some (aU c):=by rw[←hW];exact f0
 have f4':we.cell? ⟨w.heap.size,4,none⟩=some (aU o):=by rw[←hW];exact f4
 have x1':we.cell? ⟨b,d*3+1,none⟩=some (aU (M.regs d).n):=by rw[←hW];exact x1
 have y1':we.cell? ⟨w.heap.size+1,1,none⟩=some (aU y.n):=by rw[←hW];exact y1
 clear hW
 go_quiet ((go_at_call 121;exact Calls.quiet_of_same ((CI.out _).mono (fun _ _ h=>⟨h.1,h.2.symm⟩))))
 go_wp2_with fail
 go_ret3
 rw[←HRR.out]
 exact⟨⟨rfl,out,(by repeat' (first|with_reducible exact HIe.out|with_reducible refine Img.drew ?_|with_reducible refine Img.drewN ?_ _)),aKW.out⟩,(by repeat' (first|with_reducible exact HWe.out|with_reducible refine Below.drew ?_|with_reducible refine Below.drewN' ?_ _))⟩):p:=h
theorem aCI(h:p:=by
 go_enter Tryz.func191,Tryz.ntmps191
 go_wp2_with ((go_at_call 153;refine(yP _).mono ?_;rintro e w1 ⟨rfl,hb⟩;(obtain⟨hc,hf⟩:=jd hb;have hz:=hb.size;simp at hz;have HB:=bW hb;clear hb)))
 go_quiet (fail)
 go_wp2_with ((go_at_call 153;refine(yP _).mono ?_;rintro e w1 ⟨rfl,hb⟩;(obtain⟨hc,hf⟩:=jd hb;have hz:=hb.size;simp at hz;have HB:=bW hb;clear hb)))
 exact bodyPost_ret (v:=.agg #[aU (-9223372036854775808),aU 9223372036854775807]) (by simp[results,Tryz.results191,go_sem,hc]) rfl ⟨rfl,uT⟩):p:=h
theorem azK(h:p:=by
 clear hx hy ia ib
 go_enter Tryz.func183,Tryz.ntmps183
 go_wp2_with fail
 go_quiet (fail)
 go_wp2_with fail
 exact bodyPost_ret (v:=.tuple #[.agg #[aU 0,aU 0],.agg #[aU 0,aU 0],.bool false]) (by simp[results,Tryz.results183,go_sem]) rfl ⟨rfl,gI⟩):p:=h
theorem aCl(h:p:=by
 clear hx hy
 clear ia eP ib ib2
 go_enter Tryz.func146,Tryz.ntmps146
 go_wp2_with fail
 go_quiet (fail)
 exact aCr):p:=h
end Go.Proofs
