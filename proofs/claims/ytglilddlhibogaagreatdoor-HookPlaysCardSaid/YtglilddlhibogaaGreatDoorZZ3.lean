/- Closed pieces of proofs that come again and again, each a proposition's own proof. -/
import Derived.Test.YtglilddlhibogaaGreatDoorZZ0
import Derived.IntWalk
import Derived.OwnWalk
import Derived.RegionTactic
import Derived.StillTactics
set_option maxRecDepth 100000
namespace Go.Proofs
variable{p q:Prop}
theorem aqD(h:p:=by
 rw[HR.out]
 (rintro e w1 ⟨rfl,hb⟩;obtain⟨hc1,hf1⟩:=jd hb;have hz1:=hb.size;(try simp at hz1);have HW1:=bW (show Below w.heap.size w w1 from Below.trans gI (hb.mono fD));clear hb;have z10:w.heap.size<w1.heap.size:=bQ;have z11:w.heap.size+1<w1.heap.size:=bQ;have z12:w.heap.size+1+1<w1.heap.size:=bQ;have z13:w.heap.size+1+1+1<w1.heap.size:=bQ;have NT:w.heap.size+1+1+1+1<w1.heap.size:=bQ)
 have zG:w.heap.size<w1.heap.size:=bQ
 have Uz:w1.cell? ⟨w.heap.size,0,none⟩=some (aU (al)):=jW
 have XM:w1.frozen? ⟨w.heap.size,0,none⟩=false:=ru
 have UA:w1.cell? ⟨w.heap.size,1,none⟩=some (aU (ah)):=jW
 have XP:w1.frozen? ⟨w.heap.size,1,none⟩=false:=ru
 have zH:w.heap.size+1<w1.heap.size:=bQ
 have UC:w1.cell? ⟨w.heap.size+1,0,none⟩=some (aU (bl)):=jW
 have UD:w1.cell? ⟨w.heap.size+1,1,none⟩=some (aU (bh)):=jW
 have zI:w.heap.size+1+1<w1.heap.size:=bQ
 have UE:w1.cell? ⟨w.heap.size+1+1,0,none⟩=some (aU (0)):=jW
 have XR:w1.frozen? ⟨w.heap.size+1+1,0,none⟩=false:=ru
 have UF:w1.cell? ⟨w.heap.size+1+1,1,none⟩=some (aU (0)):=jW
 have XT:w1.frozen? ⟨w.heap.size+1+1,1,none⟩=false:=ru
 have zJ:w.heap.size+1+1+1<w1.heap.size:=bQ
 have UG:w1.cell? ⟨w.heap.size+1+1+1,0,none⟩=some (aU (0)):=jW
 have XU:w1.frozen? ⟨w.heap.size+1+1+1,0,none⟩=false:=ru
 have UH:w1.cell? ⟨w.heap.size+1+1+1,1,none⟩=some (aU (0)):=jW
 have XV:w1.frozen? ⟨w.heap.size+1+1+1,1,none⟩=false:=ru
 have zK:w.heap.size+1+1+1+1<w1.heap.size:=bQ
 have UJ:w1.cell? ⟨w.heap.size+1+1+1+1,0,none⟩=some (aU (0)):=jW
 have UK:w1.cell? ⟨w.heap.size+1+1+1+1,1,none⟩=some (aU (0)):=jW
 clear hc1 hf1
 go_wp2_with fail
 go_region
 go_wp2_with fail
 exact bodyPost_ret (v:=.tuple #[.agg #[aU (x3),aU (x4)],.agg #[aU (x1),aU (x2)],.bool (xb)]) auf rfl ⟨by first|rfl|(simp[kK,BF];done),jZ⟩):p:=h
theorem acU(h:p:=by
 go_enter Tryz.func189,Tryz.ntmps189
 go_wp2_with fail
 refine wp_loop_rounds 5 ?_
 rw[rounds_succ]
 go_wp2_with (first|(rw[rounds_succ])|(go_at_call 153;refine(yP _).mono ?_;(refine aAZ ?_;intro w1 hc1 hf1 hz1 HW1 z10 z11 z12)))
 exact bodyPost_ret (v:=.agg #[aU (-9223372036854775808),aU 9223372036854775807]) (by simp[results,Tryz.results189,go_sem,hc1,z12]) rfl ⟨rfl,jZ⟩):p:=h
theorem ak2(h:p:=by
 have HW0:=bW (Below.refl w.heap.size w)
 cases r
 all_goals
  go_enter Tryz.func71,Tryz.ntmps71
  go_wp2_with (first|(go_at_call 101;refine(av9 _ _).mono ?_;rintro e w' ⟨rfl,rfl⟩)|(go_at_call 102;refine(awc _ _).mono ?_;rintro e w' ⟨rfl,rfl⟩)|(go_at_call 68;refine(N9 _ _).mono ?_;rintro e w' ⟨rfl,rfl⟩;rw[jX]))
 all_goals
  go_ret
  refine⟨?_,gI⟩
  (try simp only[Bool.not_eq_eq_eq_not,Bool.not_true,Bool.not_false,decide_eq_true_eq,decide_eq_false_iff_not,Bool.or_eq_true,Bool.and_eq_true,Bool.or_eq_false_iff,Bool.and_eq_false_iff,beq_iff_eq,beq_eq_false_iff_ne,bne_iff_ne,bne_eq_false_iff_eq,ne_eq]at *)
  (first|(rw[adt iU,Ut dS];rfl)|(rw[ak3 iU iU,Ut dS];rfl)|(rw[ak4 iU iU iU,Ut dS];rfl)|(rw[ak5 iU iU iU iU,Ut dS];rfl)|(rw[ak6 iU iU iU iU,apv];rfl))):p:=h
theorem ak7(h:p:=by
 have HW0:=bW (Below.refl w.heap.size w)
 cases r
 all_goals
  go_enter Tryz.func62,Tryz.ntmps62
  go_wp2_with (first|(go_at_call 50;refine(Zd _ _ _ _).mono ?_;rintro e w' ⟨rfl,rfl⟩)|(go_at_call 57;refine(awd _ _).mono ?_;rintro e w' ⟨rfl,rfl⟩)|(go_at_call 58;refine(mg _ _).mono ?_;rintro e w' ⟨rfl,rfl⟩;rw[jX]))
 all_goals
  go_ret
  refine⟨?_,gI⟩
  (try simp only[Bool.not_eq_eq_eq_not,Bool.not_true,Bool.not_false,decide_eq_true_eq,decide_eq_false_iff_not,Bool.or_eq_true,Bool.and_eq_true,Bool.or_eq_false_iff,Bool.and_eq_false_iff,beq_iff_eq,beq_eq_false_iff_ne,bne_iff_ne,bne_eq_false_iff_eq,ne_eq]at *)
  (first|(rw[adt iU];rfl)|(rw[ak3 iU iU];rfl)|(rw[ak4 iU iU iU];rfl)|(rw[ak5 iU iU iU iU];rfl)|(rw[ak6 iU iU iU iU];rfl))):p:=h
theorem aCp(h:p:=by
 rw[HR.out]
 (rintro e w2 ⟨rfl,hb⟩;obtain⟨hc2,hf2⟩:=jd hb;have hz2:=hb.size;(try simp at hz2);have HW2:=bW (show Below w.heap.size w w2 from Below.trans jZ (hb.mono fD));clear hb;have z20:w.heap.size<w2.heap.size:=bQ;have z21:w.heap.size+1<w2.heap.size:=bQ;have z22:w.heap.size+1+1<w2.heap.size:=bQ;have z23:w.heap.size+1+1+1<w2.heap.size:=bQ;have z24:w.heap.size+1+1+1+1<w2.heap.size:=bQ;have z25:w.heap.size+1+1+1+1+1<w2.heap.size:=bQ)
 have y2a:w.heap.size<w2.heap.size:=bQ
 have afy:w2.cell? ⟨w.heap.size,0,none⟩=some (aU (Ie)):=ajR
 have afE:w2.cell? ⟨w.heap.size,1,none⟩=some (aU (Ig)):=ajT
 have y2b:w.heap.size+1<w2.heap.size:=bQ
 have afJ:w2.cell? ⟨w.heap.size+1,0,none⟩=some (aU (bl)):=ajU
 have afM:w2.cell? ⟨w.heap.size+1,1,none⟩=some (aU (bh)):=ajV
 have y2r:w.heap.size+1+1<w2.heap.size:=bQ
 have afN:w2.cell? ⟨w.heap.size+1+1,0,none⟩=some (aU (0)):=ajW
 have anX:w2.frozen? ⟨w.heap.size+1+1,0,none⟩=false:=ajX
 have afP:w2.cell? ⟨w.heap.size+1+1,1,none⟩=some (aU (0)):=ajY
 have anY:w2.frozen? ⟨w.heap.size+1+1,1,none⟩=false:=ajZ
 have y2s:w.heap.size+1+1+1<w2.heap.size:=bQ
 have afQ:w2.cell? ⟨w.heap.size+1+1+1,0,none⟩=some (aU (0)):=aj0
 have anZ:w2.frozen? ⟨w.heap.size+1+1+1,0,none⟩=false:=aj1
 have afR:w2.cell? ⟨w.heap.size+1+1+1,1,none⟩=some (aU (0)):=aj2
 have an0:w2.frozen? ⟨w.heap.size+1+1+1,1,none⟩=false:=aj3
 clear hc2 hf2
 go_wp2_with fail
 go_region
 go_wp2_with fail
 exact bodyPost_ret (v:=.tuple #[.agg #[aU (x3),aU (x4)],.agg #[aU (x1),aU (x2)],.bool (xb)]) (by simp[results,Tryz.results146,go_sem,y2a,afy,afE,y2b,afJ,afM,y2r,afN,afP,y2s,afQ,afR]) rfl ⟨by first|rfl|(simp[kK,BF];done),Uu⟩):p:=h
theorem ayi(h:p:=by
 refine(C.out _ (HG.out.later gI)).mono ?_
 (rintro e w1 ⟨rfl,hb⟩;obtain⟨hc1,hf1⟩:=jd hb;have hz1:=hb.size;(try simp at hz1);have HW1:=bW (show Below w.heap.size w w1 from Below.trans gI (hb.mono fD));clear hb;have z10:w.heap.size<w1.heap.size:=bQ;have z11:w.heap.size+1<w1.heap.size:=bQ;have z12:w.heap.size+1+1<w1.heap.size:=bQ;have z13:w.heap.size+1+1+1<w1.heap.size:=bQ)
 have hga:=HG.out.later HW1.out
 have gz1:=hga.lt
 obtain⟨hg0,hg1⟩:=hga
 (have rQ:w1.cell? ⟨w.heap.size,0,none⟩=some (.int .u8 (letter ka)):=fH;have uM:w1.frozen? ⟨w.heap.size,0,none⟩=false:=fO;have uN:w1.cell? ⟨w.heap.size,1,none⟩=some (aU la):=fH;have uO:w1.frozen? ⟨w.heap.size,1,none⟩=false:=fO;have yU:w1.cell? ⟨w.heap.size,2,none⟩=some (aU ha):=fH;have yX:w1.frozen? ⟨w.heap.size,2,none⟩=false:=fO)
 (have zX:w1.cell? ⟨w.heap.size+1,0,none⟩=some (.int .u8 110):=fH;have zZ:w1.frozen? ⟨w.heap.size+1,0,none⟩=false:=fO;have Af:w1.cell? ⟨w.heap.size+1,1,none⟩=some (aU lb):=fH;have Ah:w1.frozen? ⟨w.heap.size+1,1,none⟩=false:=fO;have Ai:w1.cell? ⟨w.heap.size+1,2,none⟩=some (aU hb):=fH;have Aj:w1.frozen? ⟨w.heap.size+1,2,none⟩=false:=fO)
 (have Tf:w1.cell? ⟨w.heap.size+1+1,0,none⟩=some (.int .u8 0):=fH;have Ti:w1.frozen? ⟨w.heap.size+1+1,0,none⟩=false:=fO;have Tj:w1.cell? ⟨w.heap.size+1+1,1,none⟩=some (aU 0):=fH;have Tm:w1.frozen? ⟨w.heap.size+1+1,1,none⟩=false:=fO;have Tn:w1.cell? ⟨w.heap.size+1+1,2,none⟩=some (aU 0):=fH;have Tq:w1.frozen? ⟨w.heap.size+1+1,2,none⟩=false:=fO)
 have ng:¬4=w1.heap.size:=bQ
 clear hc1 hf1 HG
 by_cases e:dl=-9223372036854775808∧dh=9223372036854775807
 ·have yes:=bW (HD.out.2 e)
  obtain⟨rfl,rfl⟩:=e
  go_wp2_with fail
  refine bodyPost_ret (v:=.tuple #[.agg #[.int .u8 0,aU 0,aU 0],aU 2]) ?_ rfl ⟨by have ye:=yes.out;first|rfl|simp[ye],jZ⟩
  simp[results,Tryz.results107,go_sem, *]
 ·have NE:=bW (show¬((⟨dl,dh⟩:P.B)=fP)from fun h=>e (HD.out.1 h))
  clear HD
  by_cases e1:dl=-9223372036854775808
  ·have e2:¬dh=9223372036854775807:=fun h=>e ⟨e1,h⟩
   subst e1
   have e3:=mV e2
   clear e e2
   go_wp2_with fail
   refine bodyPost_ret (v:=.tuple #[.agg #[.int .u8 (letter ka),aU (-9223372036854775808),aU dh],aU 0]) ?_ rfl ⟨by have ne:=NE.out;first|rfl|simp[ne],jZ⟩
   simp[results,Tryz.results107,go_sem, *]
  ·have e3:=mV e1
   clear e e1
   go_wp2_with fail
   refine bodyPost_ret (v:=.tuple #[.agg #[.int .u8 (letter ka),aU dl,aU dh],aU 0]) ?_ rfl ⟨by have ne:=NE.out;first|rfl|simp[ne],jZ⟩
   simp[results,Tryz.results107,go_sem, *]):p:=h
theorem avJ(h:p:=by
 have p2:w2.cell? ⟨wd.heap.size,2,none⟩=some (aU cell):=(hb2.cell (p:=⟨wd.heap.size,2,none⟩) dY).trans oZ
 have z2:wd.heap.size<w2.heap.size:=aAc
 have Q7:b<w2.heap.size:=bQ
 have z3:w.heap.size<w2.heap.size:=bQ
 have z4:w.heap.size+1<w2.heap.size:=bQ
 have HI2:=bW (HI.out.later hB2 YB)
 have HB2:=bW ((HWd.out.mono (Nat.le_of_lt zb)).trans (hB2.mono bQ))
 have Tv:=bW (HOW.out.kept (But.of (b:=b) hB2).grown az0)
 refine am3 ?_;intro f3' y0' y1' y2'
 clear hB2 hb2
 clear x0 x1 x2 y0 y1 y2 f3
 go_wp2_with fail
 go_ret3
 rw[←HRR.out]
 exact⟨⟨⟨_,rfl⟩,by decide⟩,aeR⟩):p:=h
theorem adv(h:p:=by
 go_enter Tryz.func154,Tryz.ntmps154
 go_wp2_with (go_at_call 153;refine(yP _).mono ?_;(refine aAZ ?_;intro w1 hc1 hf1 hz1 HW1 z10 z11 z12))
 exact bodyPost_ret (v:=.agg #[aU (-9223372036854775808),aU 9223372036854775807]) Ot rfl ⟨rfl,jZ⟩):p:=h
theorem afV(h:p:=by
 go_wp2_with (go_at_call 58;refine(mg _ _).mono ?_;rintro e w' ⟨rfl,rfl⟩;rw[jX])
 go_region
 all_goals go_wp2_with (go_at_call 58;refine(mg _ _).mono ?_;rintro e w' ⟨rfl,rfl⟩;rw[jX])
 go_ret3
 rw[←HRR.out]
 exact⟨⟨⟨_,rfl⟩,by decide⟩,anj⟩):p:=h
theorem aP4(h:p:=by
 rw[H2.out]
 rintro e w' ⟨rfl,rfl⟩
 go_wp2_with fail
 exact bodyPost_ret (v:=.agg #[aU ((-9223372036854775808)),aU (9223372036854775807)]) Df rfl ⟨by first|rfl|(simp;done)|(simp[fP];done),gI⟩):p:=h
theorem aBW(h:p:=by
 have e':dV 2 ⟨al,ah⟩ ⟨bl,bh⟩=aqM ⟨al,ah⟩ ⟨bl,bh⟩:=(aKm (a:=⟨al,ah⟩) (b:=⟨bl,bh⟩) ⟨ia,eP,ha⟩ ⟨ib,ib2,hb⟩).symm
 rw[e'];clear e'
 unfold aqM;simp only
 have IB:=bW ib;have uU:=bW ib2;clear ia eP ib ib2 ha hb
 generalize h1:Ol al bl=s1
 generalize h2:Ol ah bh=s2
 have H1:=bW h1;have H2:=bW h2;clear h1 h2
 obtain⟨v1,b1⟩:=s1;obtain⟨v2,b2⟩:=s2
 cases b1<;>cases b2
 ·go_enter Tryz.func147,Tryz.ntmps147
  go_wp2_with fail
  refine(adr _ _ IB.out _).mono ?_
  rw[H1.out]
  rintro e w' ⟨rfl,rfl⟩
  go_wp2_with fail
  refine(adr _ _ uU.out _).mono ?_
  rw[H2.out]
  rintro e w' ⟨rfl,rfl⟩
  go_wp2_with fail
  exact bodyPost_ret (v:=.agg #[aU ((-9223372036854775808)),aU (9223372036854775807)]) Df rfl ⟨by first|rfl|(simp;done)|(simp[fP];done),gI⟩
 ·go_enter Tryz.func147,Tryz.ntmps147
  go_wp2_with fail
  refine(adr _ _ IB.out _).mono ?_
  rw[H1.out]
  rintro e w' ⟨rfl,rfl⟩
  go_wp2_with fail
  refine(adr _ _ uU.out _).mono ?_
  rw[H2.out]
  rintro e w' ⟨rfl,rfl⟩
  go_wp2_with fail
  exact bodyPost_ret (v:=.agg #[aU ((-9223372036854775808)),aU (9223372036854775807)]) Df rfl ⟨by first|rfl|(simp;done)|(simp[fP];done),gI⟩
 ·go_enter Tryz.func147,Tryz.ntmps147
  go_wp2_with fail
  refine(adr _ _ IB.out _).mono ?_
  rw[H1.out]
  rintro e w' ⟨rfl,rfl⟩
  go_wp2_with fail
  refine(adr _ _ uU.out _).mono ?_
  rw[H2.out]
  rintro e w' ⟨rfl,rfl⟩
  go_wp2_with fail
  exact bodyPost_ret (v:=.agg #[aU ((-9223372036854775808)),aU (9223372036854775807)]) Df rfl ⟨by first|rfl|(simp;done)|(simp[fP];done),gI⟩
 ·go_enter Tryz.func147,Tryz.ntmps147
  go_wp2_with fail
  refine(adr _ _ IB.out _).mono ?_
  rw[H1.out]
  rintro e w' ⟨rfl,rfl⟩
  go_wp2_with fail
  refine(adr _ _ uU.out _).mono ?_
  rw[H2.out]
  rintro e w' ⟨rfl,rfl⟩
  go_wp2_with fail
  exact bodyPost_ret (v:=.agg #[aU (v1),aU (v2)]) Df rfl ⟨by first|rfl|(simp;done)|(simp[fP];done),gI⟩):p:=h
theorem aBX(h:p:=by
 have e':dV 3 ⟨al,ah⟩ ⟨bl,bh⟩=aqN ⟨al,ah⟩ ⟨bl,bh⟩:=(aKn (a:=⟨al,ah⟩) (b:=⟨bl,bh⟩) ⟨ia,eP,ha⟩ ⟨ib,ib2,hb⟩).symm
 rw[e'];clear e'
 unfold aqN;simp only
 have IB:=bW ib;have uU:=bW ib2;clear ia eP ib ib2 ha hb
 generalize h1:Om al bh=s1
 generalize h2:Om ah bl=s2
 have H1:=bW h1;have H2:=bW h2;clear h1 h2
 obtain⟨v1,b1⟩:=s1;obtain⟨v2,b2⟩:=s2
 cases b1<;>cases b2
 ·go_enter Tryz.func147,Tryz.ntmps147
  go_wp2_with fail
  refine(ads _ _ uU.out _).mono ?_
  rw[H1.out]
  rintro e w' ⟨rfl,rfl⟩
  go_wp2_with fail
  refine(ads _ _ IB.out _).mono ?_
  rw[H2.out]
  rintro e w' ⟨rfl,rfl⟩
  go_wp2_with fail
  exact bodyPost_ret (v:=.agg #[aU ((-9223372036854775808)),aU (9223372036854775807)]) Df rfl ⟨by first|rfl|(simp;done)|(simp[fP];done),gI⟩
 ·go_enter Tryz.func147,Tryz.ntmps147
  go_wp2_with fail
  refine(ads _ _ uU.out _).mono ?_
  rw[H1.out]
  rintro e w' ⟨rfl,rfl⟩
  go_wp2_with fail
  refine(ads _ _ IB.out _).mono ?_
  rw[H2.out]
  rintro e w' ⟨rfl,rfl⟩
  go_wp2_with fail
  exact bodyPost_ret (v:=.agg #[aU ((-9223372036854775808)),aU (9223372036854775807)]) Df rfl ⟨by first|rfl|(simp;done)|(simp[fP];done),gI⟩
 ·go_enter Tryz.func147,Tryz.ntmps147
  go_wp2_with fail
  refine(ads _ _ uU.out _).mono ?_
  rw[H1.out]
  rintro e w' ⟨rfl,rfl⟩
  go_wp2_with fail
  refine(ads _ _ IB.out _).mono ?_
  rw[H2.out]
  rintro e w' ⟨rfl,rfl⟩
  go_wp2_with fail
  exact bodyPost_ret (v:=.agg #[aU ((-9223372036854775808)),aU (9223372036854775807)]) Df rfl ⟨by first|rfl|(simp;done)|(simp[fP];done),gI⟩
 ·go_enter Tryz.func147,Tryz.ntmps147
  go_wp2_with fail
  refine(ads _ _ uU.out _).mono ?_
  rw[H1.out]
  rintro e w' ⟨rfl,rfl⟩
  go_wp2_with fail
  refine(ads _ _ IB.out _).mono ?_
  rw[H2.out]
  rintro e w' ⟨rfl,rfl⟩
  go_wp2_with fail
  exact bodyPost_ret (v:=.agg #[aU (v1),aU (v2)]) Df rfl ⟨by first|rfl|(simp;done)|(simp[fP];done),gI⟩):p:=h
theorem anW(h:p:=by
 rw[e]
 clear e
 go_enter Tryz.func190,Tryz.ntmps190
 go_wp2_with (first|(go_at_call 153;refine(yP _).mono ?_;rintro e w1 ⟨rfl,hb⟩;(obtain⟨hc,hf⟩:=jd hb;have hz:=hb.size;simp at hz;have HB:=bW hb;clear hb))|(go_at_call 207;refine(aee _ hm.out _).mono ?_;rintro e w' ⟨rfl,rfl⟩))
 exact bodyPost_ret (v:=.agg #[aU (-9223372036854775808),aU 9223372036854775807]) (by simp[results,Tryz.results190,go_sem,hc]) rfl ⟨rfl,uT⟩):p:=h
theorem aAu(h:p:=by
 go_wp2_with (go_at_call 58;refine(mg _ _).mono ?_;rintro e w' ⟨rfl,rfl⟩;rw[jX])
 go_region
 all_goals go_wp2_with (go_at_call 58;refine(mg _ _).mono ?_;rintro e w' ⟨rfl,rfl⟩;rw[jX])
 go_ret3
 rw[←HRR.out]
 exact⟨⟨rfl,out,(by repeat' (first|with_reducible exact HI.out|with_reducible refine Img.drew ?_|with_reducible refine Img.drewN ?_ _)),HOW.out⟩,anj⟩):p:=h
theorem avs(h:p:=by
 refine atN ?_;intro w1 hc1 hf1 hz1 HW1 z10 z11 z12 z13 OE V7 OG V9 OH Wn OI Wp Rt Yl Ru Ym OJ Wq OL Ws
 clear hc1 hf1
 go_wp2_with fail
 exact bodyPost_ret (v:=.tuple #[.agg #[aU (ol),aU (oh)],.agg #[aU (pl),aU (ph)],.bool ob]) (by simp[results,Tryz.results151,go_sem,OE,OG,OH,OI,Rt,Ru,OJ,OL]) rfl ⟨rfl,jZ⟩):p:=h
theorem ap6(h:p:=by
 go_enter Tryz.func147,Tryz.ntmps147
 go_wp2_with fail
 refine wp_loop_rounds 5 ?_
 rw[rounds_succ]
 go_wp2_with (rw[rounds_succ])
 exact am4):p:=h
theorem aEN(h:p:=by
 refine atN ?_;intro w1 hc1 hf1 hz1 HW1 z10 z11 z12 z13 OE V7 OG V9 OH Wn OI Wp Rt Yl Ru Ym OJ Wq OL Ws
 clear hc1 hf1
 go_wp2_with fail
 go_region
 go_wp2_with fail
 exact bodyPost_ret (v:=.tuple #[.agg #[aU (pl),aU (ph)],.agg #[aU (ol),aU (oh)],.bool ob]) aAR rfl ⟨by simp[BF],jZ⟩):p:=h
theorem aEO(h:p:=by
 go_enter Tryz.func82,Tryz.ntmps82
 go_wp2_with fail
 refine(ada v o hv.1 _).mono ?_
 rw[HK.out]
 refine Uy ?_;intro w1 hc1 hf1 hz1 HW1 z10 z11
 (have rQ:w1.cell? ⟨w.heap.size,0,none⟩=some (aU v.kind):=fH;have uM:w1.frozen? ⟨w.heap.size,0,none⟩=false:=fO;have uN:w1.cell? ⟨w.heap.size,1,none⟩=some (aU v.n):=fH;have uO:w1.frozen? ⟨w.heap.size,1,none⟩=false:=fO;have yU:w1.cell? ⟨w.heap.size,2,none⟩=some (aU v.cell):=fH;have yX:w1.frozen? ⟨w.heap.size,2,none⟩=false:=fO)
 (have zX:w1.cell? ⟨w.heap.size+1,0,none⟩=some (aU x.kind):=fH;have zZ:w1.frozen? ⟨w.heap.size+1,0,none⟩=false:=fO;have Af:w1.cell? ⟨w.heap.size+1,1,none⟩=some (aU x.n):=fH;have Ah:w1.frozen? ⟨w.heap.size+1,1,none⟩=false:=fO;have Ai:w1.cell? ⟨w.heap.size+1,2,none⟩=some (aU x.cell):=fH;have Aj:w1.frozen? ⟨w.heap.size+1,2,none⟩=false:=fO)
 clear hc1 hf1
 go_wp2_with fail
 go_ret
 exact⟨rfl,jZ⟩):p:=h
theorem aAf(h:p:=by
 clear ia eP ib ib2 ha hb
 go_enter Tryz.func147,Tryz.ntmps147
 go_wp2_with fail
 refine ak9 9 dF dF ?_
 simp only[List.take_succ_cons,List.take_zero,List.drop_succ_cons,List.drop_zero]
 repeat still_step
 still_call ((akI _ _ IA.out IK.out _).mono (fun _ _ h=>⟨h.1,h.2.symm⟩))
 repeat still_step
 still_call ((akI _ _ Eu.out IK.out _).mono (fun _ _ h=>⟨h.1,h.2.symm⟩))
 repeat still_step
 refine wpStill_nil ?_
 go_wp2_with fail
 exact bodyPost_ret (v:=.agg #[aU (P.does 12 al (sh bl:Int)),aU (P.does 12 ah (sh bl:Int))]) Df rfl ⟨rfl,gI⟩):p:=h
theorem ac9(h:p:=by
 clear ia eP ib ib2 ha hb
 go_enter Tryz.func147,Tryz.ntmps147
 go_wp2_with fail
 exact am4):p:=h
theorem axO(h:p:=by
 have tn:=Dl he
 have CX:=bW he
 have HW2:=bW (HWb.out he)
 clear he YZ HWb
 have r0:w4.cell? ⟨w.heap.size+1+1,0,none⟩=some (aU 0):=Ci.out.cell 0 bQ
 have r1:w4.cell? ⟨w.heap.size+1+1,1,none⟩=some (aU 0):=Ci.out.cell 1 bQ
 have t0:=Ci.out.free 0 bQ
 have t1:=Ci.out.free 1 bQ
 have zF4:w.heap.size+1+1<w4.heap.size:=Ci.out.lt bQ
 go_wp2_with fail
 refine bodyPost_ret (v:=.agg #[aU er,aU QT]) ?_ rfl ?_
 ·simp[results,Tryz.results104,go_sem, *]
 ·rw[HW2.out]
  exact⟨v4,rfl,(Dv.out.but (c:=w.heap.size+1+1) (((But.refl (w.heap.size+1+1) _).setCell (.inl rfl) _).setCell (.inl rfl) _) (show w.heap.size≤w.heap.size+1+1 by omega) bQ YX.out).later ((Below.refl _ _).alloc (Nat.le_refl _) _)⟩):p:=h
theorem aEm(h:p:=by
 clear hz
 go_enter Tryz.func111,Tryz.ntmps111
 go_wp2_with fail
 refine atQ ?_;intro w1 hc1 hf1 hz1 HW1 z10 z11 rQ uM uN uO yU yX
 refine aaL ?_;intro zX zZ Af Ah Ai Aj
 have hl:=aEl (HI.out.later HW1.out hlt) hq
 have YJ:b<w1.heap.size:=(HI.out.later HW1.out hlt).lt bQ
 have YB:b<w1.heap.size+1:=bQ
 rw[HX.out]at hl
 obtain⟨d0,d1,d2⟩:=hl
 clear hc1 hf1
 go_wp2_with fail
 go_region
 all_goals
  go_wp2_with fail
  refine bodyPost_ret ?_ rfl ⟨rfl,jZ⟩
  simp[results,Tryz.results111,go_sem, *]):p:=h
theorem aB0(h:p:=by
 have e:dV 13 ⟨al,ah⟩ ⟨bl,bh⟩=⟨-ah,-al⟩:=(aB1 (a:=⟨al,ah⟩) (b:=⟨bl,bh⟩) ⟨ia,eP,ha⟩).symm.trans (by unfold aqx;simp only;rw[dB h1])
 rw[e]
 clear e
 have a1:-ah≤9223372036854775807:=bQ
 have a2:-9223372036854775808≤-ah:=by have:=eP.2;unfold In64 at *;omega
 have a3:-al≤9223372036854775807:=bQ
 have a4:-9223372036854775808≤-al:=U3
 clear ia eP ib ib2 ha hb
 go_enter Tryz.func147,Tryz.ntmps147
 go_wp2_with fail
 exact bodyPost_ret (v:=.agg #[aU (-ah),aU (-al)]) Df rfl ⟨rfl,gI⟩):p:=h
theorem anD(h:p:=by
 clear ia eP ib ib2 ha hb
 go_enter Tryz.func147,Tryz.ntmps147
 go_wp2_with fail
 exact bodyPost_ret (v:=.agg #[aU (0),aU (ah)]) Df rfl ⟨rfl,gI⟩):p:=h
theorem aCo(h:p:=by
 rw[e]
 clear ia eP ib ib2 e hm1
 go_enter Tryz.func146,Tryz.ntmps146
 go_wp2_with fail
 refine apM ?_;intro w1 hz1 HW1 z10 z11 z12 z13 NT zG Uz XM UA XP zH UC UD zI UE XR UF XT zJ UG XU UH XV zK UJ UK
 go_wp2_with fail
 go_region
 go_wp2_with fail
 exact bodyPost_ret (v:=.tuple #[.agg #[aU (0),aU (0)],.agg #[aU (0),aU (0)],.bool (false)]) auf rfl ⟨by first|rfl|(simp[kK,BF];done),jZ⟩):p:=h
theorem avb(h:p:=by
 go_enter Tryz.func146,Tryz.ntmps146
 go_wp2_with fail
 go_region
 go_wp2_with fail
 exact bodyPost_ret (v:=.tuple #[.agg #[aU (al),aU (ah)],.agg #[aU (bl),aU (bh)],.bool (true)]) (by simp[results,Tryz.results146,go_sem]) rfl ⟨by first|rfl|(simp[kK,BF];done),gI⟩):p:=h
theorem aEP(h:p:=by
 have d1:w1.cell? ⟨b,34+q*3+1,none⟩=some (aU (M.slots q).n):=((HI.out.later HW1.out hlt).cell _ bQ).trans (congrArg some ((ags hq (bQ:1<3) bQ).trans (ajF _)))
 have d2:w1.cell? ⟨b,34+q*3+2,none⟩=some (aU (M.slots q).cell):=((HI.out.later HW1.out hlt).cell _ bQ).trans (congrArg some ((ags hq (bQ:2<3) bQ).trans (ajH _)))
 clear hc1 hf1
 go_wp2_with fail
 refine bodyPost_ret ?_ rfl ⟨rfl,jZ⟩
 simp[results,Tryz.results81,go_sem, *]):p:=h
theorem aCr(h:p:=by
 go_wp2_with fail
 go_region
 go_wp2_with fail
 exact bodyPost_ret (v:=.tuple #[.agg #[aU (0),aU (0)],.agg #[aU (0),aU (0)],.bool (false)]) (by simp[results,Tryz.results146,go_sem]) rfl ⟨by first|rfl|(simp[kK,BF];done),gI⟩):p:=h
theorem awo(h:p:=by
 rw[e]
 clear e
 have t3:(bl==0)=true:=YO
 have H3:=bW h3
 clear h3
 go_enter Tryz.func154,Tryz.ntmps154
 go_wp2_with (go_at_call 153;refine(yP _).mono ?_;(refine arZ ?_;intro w1 hc1 hf1 hz1 HW1))
 exact bodyPost_ret (v:=.agg #[aU (0),aU (ah)]) ak8 rfl ⟨rfl,gI⟩):p:=h
theorem aBZ(h:p:=by
 have e:dV 11 ⟨al,ah⟩ ⟨bl,bh⟩=⟨al,ah⟩:=(anE ⟨al,ah⟩ ⟨bl,bh⟩).symm.trans (by unfold agb rk;simp only;rw[dB ⟨h1,h2⟩])
 rw[e]
 clear e
 have t1:(bl==bh)=true:=AO
 have t2:((sh bl:Int)==0)=true:=by rw[h2];rfl
 clear h1 h2
 clear ia eP ib ib2 ha hb
 go_enter Tryz.func147,Tryz.ntmps147
 go_wp2_with fail
 exact bodyPost_ret (v:=.agg #[aU (al),aU (ah)]) Df rfl ⟨rfl,gI⟩):p:=h
theorem am0(h:p:=by
 go_wp2_with fail
 go_ret
 exact⟨rfl,(Below.refl _ _).alloc (Nat.le_refl _) _⟩):p:=h
theorem av7(h:p:=by
 clear hstop hT hc yZ hz
 go_wp2_with fail
 refine⟨⟨k+1,Vz,Ik,L2,by omega,by go_num,?_⟩,?_⟩
 ·have:=HZ.out
  rw[an5.out]at this
  exact this
 ·show 3-((k:Int)+1).toNat<3-(k:Int).toNat
  omega):p:=h
theorem YG(h:p:=by
 go_wp2_with fail
 go_ret
 exact⟨rfl,gI⟩):p:=h
theorem adn(h:p:=by
 go_wp2_with fail
 go_ret2
 exact⟨rfl,rfl⟩):p:=h
theorem aDV(h:p:=by
 go_wp2_with (go_at_call 58;refine(mg _ _).mono ?_;rintro e w' ⟨rfl,rfl⟩;rw[jX])
 go_region
 all_goals go_wp2_with (go_at_call 58;refine(mg _ _).mono ?_;rintro e w' ⟨rfl,rfl⟩;rw[jX])
 refine ac4 ?_;intro w2 hb2 hB2
 have p0:w2.cell? ⟨wd.heap.size,0,none⟩=some (.int .u8 99):=(hb2.cell (p:=⟨wd.heap.size,0,none⟩) dY).trans oZ
 exact avJ):p:=h
theorem ac0(h:p:=by
 go_wp2_with fail
 go_ret
 exact⟨rfl,rfl⟩):p:=h
theorem arX(h:p:=by
 go_enter Tryz.func115,Tryz.ntmps115
 go_wp2_with fail
 refine bodyPost_ret ?_ rfl ⟨rfl,gI⟩
 simp[results,Tryz.results115,go_sem]):p:=h
theorem aqB(h:p:=by
 go_enter Tryz.func107,Tryz.ntmps107
 go_wp2_with fail
 refine bodyPost_ret ?_ rfl ⟨rfl,gI⟩
 simp[results,Tryz.results107,go_sem]):p:=h
theorem awn(h:p:=by
 rw[H2.out]
 rintro e w' ⟨rfl,rfl⟩
 go_wp2_with fail
 refine(adu _ _ _ _ _).mono ?_
 refine Gy ?_;intro w1 hc1 hf1 hz1 HW1 z10 z11 z12
 go_wp2_with fail
 exact bodyPost_ret (v:=.agg #[aU ((EF v1 (true) v2 (true)).lo),aU ((EF v1 (true) v2 (true)).hi)]) Ot rfl ⟨by first|(simp;done)|(simp;exact⟨rfl,rfl⟩),jZ⟩):p:=h
theorem atv(h:p:=by
 go_enter Tryz.func206,Tryz.ntmps206
 go_wp2_with fail
 exact bodyPost_ret (v:=.agg #[aU (al),aU (ah)]) atu rfl ⟨rfl,gI⟩):p:=h
theorem av5(h:p:=by
 go_enter Tryz.func176,Tryz.ntmps176
 go_wp2_with fail
 exact bodyPost_ret (v:=.agg #[aU al,aU ah]) auJ rfl ⟨rfl,uT⟩):p:=h
theorem au2(h:p:=by
 have hq:=aIT h
 go_wp2_with fail
 go_round
 case rel=>exact⟨k+1,by omega,by go_num,by rw[Int.pow_succ]⟩
 case measure=>simp[intOf];omega):p:=h
theorem av3(h:p:=by
 have e:Ol a b=(wrap64 (a+b),true):=by unfold Ol;rw[dw bQ]
 rw[e];clear e
 go_enter Tryz.func177,Tryz.ntmps177
 exact adn):p:=h
theorem av4(h:p:=by
 have e:Om a b=(wrap64 (a-b),true):=by unfold Om;rw[dw bQ]
 rw[e];clear e
 go_enter Tryz.func178,Tryz.ntmps178
 exact adn):p:=h
theorem avA(h:p:=by
 go_wp2_with fail
 refine⟨⟨i+1,_,_,_,_,by simp,Hf.out⟩,?_⟩
 show n-((i:Int)+1).toNat<n-((i:Int)).toNat
 omega):p:=h
theorem aCL(h:p:=by
 refine ape ?_;intro Tf Ti Tj Tm Tn Tq
 clear hc1 hf1
 go_wp2_with fail
 refine bodyPost_ret ?_ rfl ⟨rfl,jZ⟩
 simp[results,Tryz.results105,go_sem, *]):p:=h
theorem aEp(h:p:=by
 obtain⟨ty,xv,rfl⟩:=hE.noIface he
 have CX:=bW he
 have HE:=bW hE
 have uD:=bW QB
 have BG:=bW JU
 clear he hE QB JU
 go_wp2_with fail
 go_ret
 rw[ao6 CX.out]
 exact⟨_,rfl,HE.out,uD.out,(But.of ajJ.out).trans BG.out⟩):p:=h
theorem azV(h:p:=by
 go_wp2_with fail
 refine(ajA _ _ _ (.inr (.inl ⟨by decide,rfl,rfl⟩)) (HG.out.later HB2.out)).mono ?_
 rintro e w3 ⟨rfl,hb3⟩
 have HB3:=bW (HB2.out.trans (hb3.mono HB2.out.size))
 clear hb3
 go_wp2_with fail
 go_ret
 exact⟨rfl,HB3.out⟩):p:=h
theorem aDU(h:p:=by
 clear x0 x1 x2 y0 y1 y2 f3
 go_wp2_with fail
 go_region
 all_goals
  go_wp2_with fail
  go_ret3
  rw[←HRR.out]
  exact⟨⟨rfl,vW.but (M:=M) Tv.out apO (by first|exact HI9.out|exact HI9.out.drew|exact HI9.out.alloc _) rfl⟩,aeR⟩):p:=h
theorem aCd(h:p:=by
 go_wp2_with fail
 exact bodyPost_ret (avx Tryz.results31 (p:=⟨w.heap.size+1,0,none⟩) oZ (aNn PI'.out)) rfl ⟨.slice U9 s.out.length Va,_,by rw[HRN.out],KG.out.1,KG.out.2.1,KG.out.2.2,HI.out.owns⟩):p:=h
theorem aEo(h:p:=by
 intro e w8 hp
 obtain⟨v,rfl,hE,Fq,VL⟩:=hp
 have HE:=bW hE
 have QS:=bW Fq
 have Ov:=bW VL
 clear hE Fq VL
 go_wp2_with fail
 go_ret
 rw[asE CX.out]
 exact⟨_,rfl,HE.out,QS.out,qx.out.trans Ov.out⟩):p:=h
theorem aBV(h:p:=by
 have e:dV 1 ⟨al,ah⟩ ⟨bl,bh⟩=⟨bl,bh⟩:=rfl
 rw[e]
 clear e
 clear ia eP ib ib2 ha hb
 go_enter Tryz.func147,Tryz.ntmps147
 go_wp2_with fail
 exact bodyPost_ret (v:=.agg #[aU (bl),aU (bh)]) Df rfl ⟨rfl,gI⟩):p:=h
theorem aCV(h:p:=by
 rw[e]
 have HO:=bW ho
 clear e ho
 obtain⟨⟨ol,oh⟩,⟨pl,ph⟩,ob⟩:=o
 go_enter Tryz.func151,Tryz.ntmps151
 go_wp2_with fail
 refine(azN _ _ _ _ _ IA.out Eu.out IB.out uU.out _).mono ?_
 exact avs):p:=h
theorem aCW(h:p:=by
 rw[e]
 have HO:=bW ho
 clear e ho
 obtain⟨⟨ol,oh⟩,⟨pl,ph⟩,ob⟩:=o
 go_enter Tryz.func151,Tryz.ntmps151
 go_wp2_with fail
 refine(azN _ _ _ _ _ IB.out uU.out IA.out Eu.out _).mono ?_
 exact aEN):p:=h
theorem aDS(h:p:=by
 clear kk0 kk1 e1 e0
 generalize kl (M.regs 0).kind=kk at *
 go_wp2_with fail
 go_region
 all_goals go_wp2_with fail
 go_ret3
 rw[←HRR.out]
 exact⟨⟨⟨_,rfl⟩,by decide⟩,(HWd.out.mono (Nat.le_of_lt zb)).drew⟩):p:=h
theorem aEj(h:p:=by
 go_wp2_with (with_reducible refine(CW.out _).mono ?_;rintro e w' ⟨rfl,rfl⟩)
 refine bodyPost_ret (v:=.tuple #[.agg #[aU 0,aU 0],aU 2]) ?_ rfl ⟨rfl,jZ⟩
 simp[results,Tryz.results152,go_sem, *]):p:=h
theorem axN(h:p:=by
 rw[Ht]at JE
 have Yg:=bW Ht
 rw[Ht]
 simp only at JE ⊢
 clear Ht
 go_wp2_with fail
 refine bodyPost_ret (v:=.agg #[aU Y1,aU Y2]) ?_ rfl ?_
 ·exact acJ
 ·rw[HW2.out,Yg.out]
  exact asF):p:=h
theorem aCT(h:p:=by
 rw[e]
 have HO:=bW ho
 clear e ho
 obtain⟨⟨ol,oh⟩,⟨pl,ph⟩,ob⟩:=o
 go_enter Tryz.func151,Tryz.ntmps151
 go_wp2_with fail
 refine(att _ _ _ _ _ IB.out Eu.out _).mono ?_
 exact avs):p:=h
theorem aCU(h:p:=by
 rw[e]
 have HO:=bW ho
 clear e ho
 obtain⟨⟨ol,oh⟩,⟨pl,ph⟩,ob⟩:=o
 go_enter Tryz.func151,Tryz.ntmps151
 go_wp2_with fail
 refine(att _ _ _ _ _ IA.out uU.out _).mono ?_
 exact aEN):p:=h
theorem ayA(h:p:=by
 subst hR2
 go_wp2_with fail
 refine bodyPost_ret (v:=.tuple #[.agg #[aU (-9223372036854775808),aU 9223372036854775807],aU 2]) ?_ rfl ⟨rfl,jZ⟩
 simp[results,Tryz.results106,go_sem, *]):p:=h
theorem ax9(h:p:=by
 go_enter Tryz.func9,Tryz.ntmps9
 go_wp2_with fail
 exact bodyPost_ret (v:=.tuple #[.pointer none,.iface 30 (aU 2)]) (by simp[results,Tryz.results9,go_sem]) rfl ⟨rfl,rfl⟩):p:=h
theorem aCh(h:p:=by
 go_enter Tryz.func107,Tryz.ntmps107
 go_wp2_with (first|(go_at_call 149;with_reducible refine(agZ ka _ _ XF.out _).mono ?_;rintro e w' ⟨rfl,rfl⟩))
 exact aub):p:=h
theorem aDQ(h:p:=by
 rintro e w1 ⟨rfl,hb⟩
 have HB:=bW (((Below.refl w.heap.size w).alloc (Nat.le_refl _) _).trans (hb.mono dY))
 clear hb
 go_wp2_with fail
 go_ret
 exact⟨rfl,HB.out⟩):p:=h
theorem aB2(h:p:=by
 have HM:=bW hm
 clear hm
 go_enter Tryz.func124,Tryz.ntmps124
 go_wp2_with fail
 go_region
 all_goals
  go_wp2_with fail
  go_ret
  rw[HM.out]
  exact⟨rfl,apP⟩):p:=h
theorem aqV(h:p:=by
 clear hc1 hf1
 go_wp2_with fail
 go_ret
 exact⟨rfl,jZ⟩):p:=h
theorem aDh(h:p:=by
 go_wp2_with fail
 refine bodyPost_ret (v:=.tuple #[aU a,.bool false]) (by simp[results,Tryz.results44,go_sem]) rfl ⟨by rw[aDg.out],HB1.out⟩):p:=h
theorem aC9(h:p:=by
 obtain rfl:k=3:=bQ
 go_wp2_with fail
 go_ret
 exact⟨_,iW,iP,L,rfl,by rw[←aL4,←aDM];exact HR.out⟩):p:=h
theorem aEG(h:p:=by
 go_wp2_with fail
 go_roundw
 case rel=>exact⟨a+1,by go_num,by omega,by first|rfl|trivial⟩
 case measure=>simp[intOf];omega):p:=h
theorem arU(h:p:=by
 go_wp2_with fail
 go_ret
 exact⟨rfl,Zy.out⟩):p:=h
theorem aEQ(h:p:=by
 clear hc1 hf1
 go_wp2_with fail
 refine bodyPost_ret ?_ rfl ⟨rfl,jZ⟩
 simp[results,Tryz.results81,go_sem, *]):p:=h
theorem ayb(h:p:=by
 clear h k0
 generalize kl (M.regs 1).kind=kk at *
 go_enter Tryz.func123,Tryz.ntmps123
 exact YG):p:=h
theorem awe(h:p:=by
 go_ret2
 exact HF.out _ HE.out ⟨rfl,HWc.out⟩):p:=h
theorem aDT(h:p:=by
 go_wp2_with fail
 go_ret3
 rw[←HRR.out]
 exact⟨⟨⟨_,rfl⟩,HE.out⟩,aeR⟩):p:=h
theorem asK(h:p:=by
 go_enter Tryz.func10,Tryz.ntmps10
 exact ac0):p:=h
theorem asL(h:p:=by
 go_enter Tryz.func11,Tryz.ntmps11
 exact ac0):p:=h
theorem asJ(h:p:=by
 go_enter Tryz.func19,Tryz.ntmps19
 exact am0):p:=h
theorem amg(h:p:=by
 go_ret
 exact⟨rfl,rfl⟩):p:=h
end Go.Proofs
