/- A part of the proof; each theorem states its conditions. -/
import Derived.Test.YtglilddlhibogaaGreatDoorOneVerA
set_option linter.unusedSimpArgs false
set_option linter.unusedVariables false
set_option maxRecDepth 100000
set_option maxHeartbeats 100000000
namespace Go.Proofs.YtglilddlhibogaaGreatDoor.W
open Go.RowKit Go.Proofs.YtglilddlhibogaaGreatDoor.P
theorem En{a b:Int}(h:a≠b):(a==b)=false:=auR
theorem ak0{a b:Int}(h:a≠b):(a !=b)=true:=by rw[bne_iff_ne];exact h
theorem aNS(c ka la ha kb lb hb:Int)(h:kb=0∨(ka=0∧c≠1))(w:World) :
  Calls Tryz.prog 115 #[aU c,.agg #[aU ka,aU la,aU ha],.agg #[aU kb,aU lb,aU hb]] w fun e w' =>
   e=.returned (.tuple #[.agg #[aU 0,aU 0,aU 0],aU 8])∧Below w.heap.size w w':=by
 refine fU ?_;intro HW0;by_cases b0:kb=0
 ·subst b0;clear h;exact arX
 ·obtain⟨rfl,c1⟩:ka=0∧c≠1:=bQ;have t1:=En b0;have t2:=ak0 c1;clear h b0 c1;exact arX
theorem aNT(ka la ha kb lb hb:Int)(b0:kb≠0)(w:World) :
  Calls Tryz.prog 115 #[aU 1,.agg #[aU ka,aU la,aU ha],.agg #[aU kb,aU lb,aU hb]] w fun e w' =>
   e=.returned (.tuple #[.agg #[aU kb,aU lb,aU hb],aU 0])∧Below w.heap.size w w':=by
 refine fU ?_;intro HW0;have t1:=En b0;clear b0;by_cases a0:ka=0
 ·have t2:(ka==0)=true:=by rw[beq_iff_eq];exact a0
  clear a0;exact arX
 ·have t2:=En a0;clear a0;exact arX
theorem aNU(c la ha lb hb:Int)(c1:c≠1)(oa:B.Ok ⟨la,ha⟩)(ob:B.Ok ⟨lb,hb⟩)(w:World) :
  Calls Tryz.prog 115 #[aU c,.agg #[aU 1,aU la,aU ha],.agg #[aU 1,aU lb,aU hb]] w fun e w' =>
   e=.returned (.tuple #[.agg #[aU 1,aU (dV c ⟨la,ha⟩ ⟨lb,hb⟩).lo,aU (dV c ⟨la,ha⟩ ⟨lb,hb⟩).hi],aU 0])∧Below w.heap.size w w':=by
 refine fU ?_;intro HW0;have t1:=En c1;have t2:=ak0 c1;have C:=bW (fun w=>ala c la ha lb hb oa.1 oa.2.1 ob.1 ob.2.1 oa.2.2 ob.2.2 w);generalize dV c ⟨la,ha⟩ ⟨lb,hb⟩=d at *;obtain⟨dl,dh⟩:=d;clear c1 oa ob;go_enter Tryz.func115,Tryz.ntmps115;go_wp2_with fail;refine(C.out _).mono ?_;refine Gy ?_;intro w1 hc1 hf1 hz1 HW1 z10 z11 z12
 (have Tf:w1.cell? ⟨w.heap.size+1+1,0,none⟩=some (aU 0):=fH;have Ti:w1.frozen? ⟨w.heap.size+1+1,0,none⟩=false:=fO;have Tj:w1.cell? ⟨w.heap.size+1+1,1,none⟩=some (aU 0):=fH;have Tm:w1.frozen? ⟨w.heap.size+1+1,1,none⟩=false:=fO;have Tn:w1.cell? ⟨w.heap.size+1+1,2,none⟩=some (aU 0):=fH;have Tq:w1.frozen? ⟨w.heap.size+1+1,2,none⟩=false:=fO)
 clear hc1 hf1;go_wp2_with fail;refine(ajD dl dh _).mono ?_;refine aAX ?_;intro w2 hc2 hf2 hz2 HW2 z20 z21 z22
 (have aPN:w2.cell? ⟨w.heap.size+1+1,0,none⟩=some (aU 0):=aaN;have aPO:w2.frozen? ⟨w.heap.size+1+1,0,none⟩=false:=aaO;have aPP:w2.cell? ⟨w.heap.size+1+1,1,none⟩=some (aU 0):=aaN;have aPQ:w2.frozen? ⟨w.heap.size+1+1,1,none⟩=false:=aaO;have aPR:w2.cell? ⟨w.heap.size+1+1,2,none⟩=some (aU 0):=aaN;have aPS:w2.frozen? ⟨w.heap.size+1+1,2,none⟩=false:=aaO)
 clear hc2 hf2;go_wp2_with fail;refine bodyPost_ret ?_ rfl ⟨rfl,Uu⟩;exact aqm
theorem aNV(c ka la ha kb lb hb:Int)(a0:ka≠0)(b0:kb≠0)(c1:c≠1)(n1:¬(ka=1∧kb=1))(hn:¬(c=2∧ka=1))(h:kb≠1∨ka=5∨(c≠2∧c≠3))(w:World) :
  Calls Tryz.prog 115 #[aU c,.agg #[aU ka,aU la,aU ha],.agg #[aU kb,aU lb,aU hb]] w fun e w' =>
   e=.returned (.tuple #[.agg #[aU 0,aU 0,aU 0],aU 1])∧Below w.heap.size w w':=by
 refine fU ?_;intro HW0;have t0:=En a0;have t1:=En b0;have t2:=En c1;have t3:=ak0 c1;by_cases a1:ka=1<;>by_cases b1:kb=1<;>by_cases c2:c=2
 all_goals (first|(exfalso;omega)|skip)
 all_goals (try (have t4:=En a1));(try (have t5:=En b1));(try (have t6:=ak0 b1));(try (have t7:=En c2));(try (have t8:=ak0 c2))
 all_goals (try (have r1:(ka==1)=true:=by rw[beq_iff_eq];exact a1));(try (have r2:(kb==1)=true:=by rw[beq_iff_eq];exact b1));(try (have r3:(kb !=1)=false:=by simp[b1]));(try (have r4:(c==2)=true:=by rw[beq_iff_eq];exact c2));(try (have r5:(c !=2)=false:=by simp[c2]))
 all_goals
  by_cases a5:ka=5
 all_goals (first|(exfalso;omega)|skip)
 all_goals (try (have q1:=En a5));(try (have q2:(ka==5)=true:=by rw[beq_iff_eq];exact a5))
 all_goals (try (have q3:(c !=3)=true:=ak0 bQ))
 all_goals
  clear a0 b0 c1 n1 hn h a1 b1 c2 a5;go_enter Tryz.func115,Tryz.ntmps115;go_wp2_with fail
 all_goals
  refine bodyPost_ret (v:=.tuple #[.agg #[aU 0,aU 0,aU 0],aU 1]) ?_ rfl ⟨rfl,gI⟩;simp[results,Tryz.results115,go_sem]
theorem aNW(la ha kb lb hb:Int)(h:kb≠0∧kb≠1)(h5:kb=5)(w:World) :
  Calls Tryz.prog 115 #[aU 2,.agg #[aU 1,aU la,aU ha],.agg #[aU kb,aU lb,aU hb]] w fun e w' =>
   e=.returned (.tuple #[.agg #[aU 0,aU 0,aU 0],aU 1])∧Below w.heap.size w w':=by
 refine fU ?_;intro HW0;subst h5;clear h;go_enter Tryz.func115,Tryz.ntmps115;go_wp2_with fail;refine bodyPost_ret (v:=.tuple #[.agg #[aU 0,aU 0,aU 0],aU 1]) ?_ rfl ⟨rfl,gI⟩;simp[results,Tryz.results115,go_sem]
theorem aNX(ka la ha lb hb:Int)(hk:ka=2∨ka=3∨ka=4)(oa:B.Ok ⟨la,ha⟩)(ob:B.Ok ⟨lb,hb⟩)(w:World) :
  Calls Tryz.prog 115 #[aU 2,.agg #[aU ka,aU la,aU ha],.agg #[aU 1,aU lb,aU hb]] w fun e w' =>
   e=.returned (.tuple #[.agg #[aU (if dV 2 ⟨la,ha⟩ ⟨lb,hb⟩=fP then 0 else ka),aU (if dV 2 ⟨la,ha⟩ ⟨lb,hb⟩=fP then 0 else(dV 2 ⟨la,ha⟩ ⟨lb,hb⟩).lo),aU (if dV 2 ⟨la,ha⟩ ⟨lb,hb⟩=fP then 0 else(dV 2 ⟨la,ha⟩ ⟨lb,hb⟩).hi)],aU (if dV 2 ⟨la,ha⟩ ⟨lb,hb⟩=fP then 2 else 0)])∧Below w.heap.size w w':=by
 refine fU ?_;intro HW0;have t1:=En (show ka≠0 by omega);have t2:=En (show ka≠1 by omega);have t3:=En (show ka≠5 by omega);clear hk;have C:=bW (fun w=>ala 2 la ha lb hb oa.1 oa.2.1 ob.1 ob.2.1 oa.2.2 ob.2.2 w);generalize dV 2 ⟨la,ha⟩ ⟨lb,hb⟩=d at *;exact aCQ
theorem aNY(ka la ha lb hb:Int)(hk:ka=2∨ka=3∨ka=4)(oa:B.Ok ⟨la,ha⟩)(ob:B.Ok ⟨lb,hb⟩)(w:World) :
  Calls Tryz.prog 115 #[aU 3,.agg #[aU ka,aU la,aU ha],.agg #[aU 1,aU lb,aU hb]] w fun e w' =>
   e=.returned (.tuple #[.agg #[aU (if dV 3 ⟨la,ha⟩ ⟨lb,hb⟩=fP then 0 else ka),aU (if dV 3 ⟨la,ha⟩ ⟨lb,hb⟩=fP then 0 else(dV 3 ⟨la,ha⟩ ⟨lb,hb⟩).lo),aU (if dV 3 ⟨la,ha⟩ ⟨lb,hb⟩=fP then 0 else(dV 3 ⟨la,ha⟩ ⟨lb,hb⟩).hi)],aU (if dV 3 ⟨la,ha⟩ ⟨lb,hb⟩=fP then 2 else 0)])∧Below w.heap.size w w':=by
 refine fU ?_;intro HW0;have t1:=En (show ka≠0 by omega);have t2:=En (show ka≠1 by omega);have t3:=En (show ka≠5 by omega);clear hk;have C:=bW (fun w=>ala 3 la ha lb hb oa.1 oa.2.1 ob.1 ob.2.1 oa.2.2 ob.2.2 w);generalize dV 3 ⟨la,ha⟩ ⟨lb,hb⟩=d at *;exact aCQ
theorem aNZ(la ha kb lb hb:Int)(hk:kb=2∨kb=3∨kb=4)(oa:B.Ok ⟨la,ha⟩)(ob:B.Ok ⟨lb,hb⟩)(w:World) :
  Calls Tryz.prog 115 #[aU 2,.agg #[aU 1,aU la,aU ha],.agg #[aU kb,aU lb,aU hb]] w fun e w' =>
   e=.returned (.tuple #[.agg #[aU (if dV 2 ⟨lb,hb⟩ ⟨la,ha⟩=fP then 0 else kb),aU (if dV 2 ⟨lb,hb⟩ ⟨la,ha⟩=fP then 0 else(dV 2 ⟨lb,hb⟩ ⟨la,ha⟩).lo),aU (if dV 2 ⟨lb,hb⟩ ⟨la,ha⟩=fP then 0 else(dV 2 ⟨lb,hb⟩ ⟨la,ha⟩).hi)],aU (if dV 2 ⟨lb,hb⟩ ⟨la,ha⟩=fP then 2 else 0)])∧Below w.heap.size w w':=by
 refine fU ?_;intro HW0;have t1:=En (show kb≠0 by omega);have t2:=En (show kb≠1 by omega);have t3:=En (show kb≠5 by omega);clear hk;have C:=bW (fun w=>ala 2 lb hb la ha ob.1 ob.2.1 oa.1 oa.2.1 ob.2.2 oa.2.2 w);generalize dV 2 ⟨lb,hb⟩ ⟨la,ha⟩=d at *;obtain⟨dl,dh⟩:=d;have hd:((⟨dl,dh⟩:B)=fP)↔(dl=-9223372036854775808∧dh=9223372036854775807):=by unfold fP;simp
 have HD:=bW hd;clear oa ob hd;have CA:=bW (show ∀ wd dr os,Calls Tryz.prog 153 #[] (Go.Sort.grow (redrawn wd dr) os) fun e w'=>e=.returned (.agg #[aU (-9223372036854775808),aU 9223372036854775807])∧∃ p:Regrown,w'=Go.Sort.grow (redrawn wd p.d) p.os from fun wd dr os=>Calls.regrown_of (yP _));go_enter Tryz.func115,Tryz.ntmps115;go_wp2_with fail;refine(C.out _).mono ?_;refine Gy ?_;intro w1 hc1 hf1 hz1 HW1 z10 z11 z12
 (have rQ:w1.cell? ⟨w.heap.size,0,none⟩=some (aU kb):=fH;have uM:w1.frozen? ⟨w.heap.size,0,none⟩=false:=fO;have uN:w1.cell? ⟨w.heap.size,1,none⟩=some (aU lb):=fH;have uO:w1.frozen? ⟨w.heap.size,1,none⟩=false:=fO;have yU:w1.cell? ⟨w.heap.size,2,none⟩=some (aU hb):=fH;have yX:w1.frozen? ⟨w.heap.size,2,none⟩=false:=fO)
 (have zX:w1.cell? ⟨w.heap.size+1,0,none⟩=some (aU 1):=fH;have zZ:w1.frozen? ⟨w.heap.size+1,0,none⟩=false:=fO;have Af:w1.cell? ⟨w.heap.size+1,1,none⟩=some (aU la):=fH;have Ah:w1.frozen? ⟨w.heap.size+1,1,none⟩=false:=fO;have Ai:w1.cell? ⟨w.heap.size+1,2,none⟩=some (aU ha):=fH;have Aj:w1.frozen? ⟨w.heap.size+1,2,none⟩=false:=fO)
 (have Tf:w1.cell? ⟨w.heap.size+1+1,0,none⟩=some (aU 0):=fH;have Ti:w1.frozen? ⟨w.heap.size+1+1,0,none⟩=false:=fO;have Tj:w1.cell? ⟨w.heap.size+1+1,1,none⟩=some (aU 0):=fH;have Tm:w1.frozen? ⟨w.heap.size+1+1,1,none⟩=false:=fO;have Tn:w1.cell? ⟨w.heap.size+1+1,2,none⟩=some (aU 0):=fH;have Tq:w1.frozen? ⟨w.heap.size+1+1,2,none⟩=false:=fO)
 clear hc1 hf1;go_wp2_with fail;generalize hW:World.alloc w1 _=wd;have HB1:=bW (show Below w.heap.size w wd from hW▸HW1.out.alloc bQ _);have zd:w1.heap.size<wd.heap.size:=OC;have d0:wd.cell? ⟨w1.heap.size,0,none⟩=some (aU dl):=qY;have d1:wd.cell? ⟨w1.heap.size,1,none⟩=some (aU dh):=qY;have hb2:Below w1.heap.size w1 wd:=hW▸(Below.refl _ _).alloc (Nat.le_refl _) _;have a0:=(hb2.cell (p:=⟨w.heap.size,0,none⟩) z10).trans rQ;have b0:=(hb2.cell (p:=⟨w.heap.size+1+1,0,none⟩) z12).trans Tf;have b1:=(hb2.cell (p:=⟨w.heap.size+1+1,1,none⟩) z12).trans Tj;have b2:=(hb2.cell (p:=⟨w.heap.size+1+1,2,none⟩) z12).trans Tn;have c0:=(hb2.frozen (p:=⟨w.heap.size+1+1,0,none⟩) z12).trans Ti;have c1:=(hb2.frozen (p:=⟨w.heap.size+1+1,1,none⟩) z12).trans Tm;have c2:=(hb2.frozen (p:=⟨w.heap.size+1+1,2,none⟩) z12).trans Tq;have z0:w.heap.size<wd.heap.size:=bQ;have z2:w.heap.size+1+1<wd.heap.size:=bQ;clear hW hb2 rQ uM uN uO yU yX zX zZ Af Ah Ai Aj Tf Ti Tj Tm Tn Tq;have k0:=cell_regrown d0;have k1:=cell_regrown d1;refine OD 2 dF dF ?_
 repeat (quiet_step (first|exact CA.out _ _ _))
 refine YE ?_;intro wq hwq hbq;clear hwq k0 k1;replace d0:=(hbq.cell (p:=⟨w1.heap.size,0,none⟩) zd).trans d0;replace d1:=(hbq.cell (p:=⟨w1.heap.size,1,none⟩) zd).trans d1;replace a0:=(hbq.cell (p:=⟨w.heap.size,0,none⟩) z0).trans a0;replace b0:=(hbq.cell (p:=⟨w.heap.size+1+1,0,none⟩) z2).trans b0;replace b1:=(hbq.cell (p:=⟨w.heap.size+1+1,1,none⟩) z2).trans b1;replace b2:=(hbq.cell (p:=⟨w.heap.size+1+1,2,none⟩) z2).trans b2;replace c0:=(hbq.frozen (p:=⟨w.heap.size+1+1,0,none⟩) z2).trans c0;replace c1:=(hbq.frozen (p:=⟨w.heap.size+1+1,1,none⟩) z2).trans c1;replace c2:=(hbq.frozen (p:=⟨w.heap.size+1+1,2,none⟩) z2).trans c2;have HWQ:=bW (HB1.out.trans (hbq.mono bQ));have y0:w.heap.size<wq.heap.size:=by have:=hbq.size;omega
 clear hbq HB1 HW1;by_cases e:dl=-9223372036854775808∧dh=9223372036854775807
 ·have yes:=bW (HD.out.2 e);obtain⟨rfl,rfl⟩:=e;go_wp2_with fail;refine bodyPost_ret (v:=.tuple #[.agg #[aU 0,aU 0,aU 0],aU 2]) ?_ rfl ⟨by have ye:=yes.out;first|rfl|simp[ye],ajI⟩;exact aqm
 ·have NE:=bW (show¬((⟨dl,dh⟩:B)=fP)from fun h=>e (HD.out.1 h));clear HD;by_cases e1:dl=-9223372036854775808
  ·have e2:¬dh=9223372036854775807:=fun h=>e ⟨e1,h⟩;subst e1;have e3:=En e2;clear e e2;go_wp2_with fail;refine bodyPost_ret (v:=.tuple #[.agg #[aU kb,aU (-9223372036854775808),aU dh],aU 0]) ?_ rfl ⟨by have ne:=NE.out;first|rfl|simp[ne],ajI⟩;exact aqm
  ·have e3:=En e1;clear e e1;go_wp2_with fail;refine bodyPost_ret (v:=.tuple #[.agg #[aU kb,aU dl,aU dh],aU 0]) ?_ rfl ⟨by have ne:=NE.out;first|rfl|simp[ne],ajI⟩;exact aqm
theorem aEL(c:Int)(a b:Wh)(ha:iL a)(hb:iL b)(w:World) :
  Calls Tryz.prog 115 #[aU c,.agg #[aU a.kind,aU a.b.lo,aU a.b.hi],.agg #[aU b.kind,aU b.b.lo,aU b.b.hi]] w fun e w' =>
   e=.returned (.tuple #[.agg #[aU (qJ c a b).1.kind,aU (qJ c a b).1.b.lo,aU (qJ c a b).1.b.hi],aU (qJ c a b).2])∧Below w.heap.size w w':=by
 obtain⟨ka,⟨la,ga⟩⟩:=a;obtain⟨kb,⟨lb,gb⟩⟩:=b;obtain⟨ka',oa⟩:=ha;obtain⟨kb',ob⟩:=hb;simp only at ka' kb' oa ob;unfold qJ;simp only;by_cases h1:kb=0∨(ka=0∧c≠1)
 ·rw[dB h1];exact aNS c ka la ga kb lb gb h1 w
 rw[dw h1];by_cases h2:c=1
 ·subst h2;rw[dB rfl];exact aNT ka la ga kb lb gb bQ w
 rw[dw h2];by_cases h3:ka=1∧kb=1
 ·rw[dB h3];obtain⟨rfl,rfl⟩:=h3;exact aNU c la ga lb gb h2 oa ob w
 rw[dw h3];by_cases h4:c=2∧ka=1
 ·rw[dB h4];obtain⟨rfl,rfl⟩:=h4;unfold Wy;simp only;by_cases h5:kb=5
  ·rw[dB bQ];exact aNW la ga kb lb gb bQ h5 w
  ·rw[dw bQ];refine(aNZ la ga kb lb gb bQ oa ob w).mono fun e w' he=>⟨he.1.trans ?_,he.2⟩;split<;>rfl
 ·rw[dw h4];unfold Wy;simp only;by_cases h5:kb≠1∨ka=5∨(c≠2∧c≠3)
  ·rw[dB h5];exact aNV c ka la ga kb lb gb bQ bQ h2 h3 h4 h5 w
  ·rw[dw h5];obtain rfl:kb=1:=bQ;have c23:c=2∨c=3:=bQ;rcases c23 with rfl|rfl
   ·refine(aNX ka la ga lb gb bQ oa ob w).mono fun e w' he=>⟨he.1.trans ?_,he.2⟩;split<;>rfl
   ·refine(aNY ka la ga lb gb bQ oa ob w).mono fun e w' he=>⟨he.1.trans ?_,he.2⟩;split<;>rfl
def agy(n bs:Nat)(s:VS)(t:Step)(pc q:Nat)(er:Int)(s2:VS)(w:World):Prop :=
 (er=0∧pc≤q∧q+1<n∧kG s2∧P.Img w bs 81 (gQ fC s2)∧s.step t pc=.go (some (s2,((q+1:Nat):Int))) none)∨(er≠0∧q=pc∧s.step t pc=.err er)
theorem agy.pair{n bs:Nat}{s s2:VS}{t:Step}{pc:Nat}{er:Int}{w:World}(hs:s.step t pc=if er≠0 then .err er else .go (some (s2,(pc:Int)+1)) none)
  (hn:pc+1<n) (hm:kG s2) (ha:P.Img w bs 81 (gQ fC s2)):agy n bs s t pc pc er s2 w:=by
 by_cases he:er=0
 ·exact .inl ⟨he,Nat.le_refl _,hn,hm,ha,by rw[hs,dw aeJ];push_cast;rfl⟩
 ·exact .inr ⟨he,rfl,by rw[hs,dB he]⟩
theorem ase{b:Nat}{x w:World}(h:But b x w){p:Addr}(hp:p.block=b∨x.heap.size≤p.block)(u:Value):But b x (w.setCell p u):=h.setCell hp u
theorem aN0(s:VS)(d sr:Nat)(r:Bool)(o nn pc:Int):s.step ⟨25,d,sr,r,o,nn⟩ pc=if(s.load (s.regs sr) o).2≠0 then .err (s.load (s.regs sr) o).2 else .go (some ({ s with regs:=upd s.regs d (s.load (s.regs sr) o).1},pc+1)) none:=by
 unfold VS.step;simp[VS.gu]
theorem aN1(s:VS)(d sr:Nat)(r:Bool)(o nn pc:Int):s.step ⟨26,d,sr,r,o,nn⟩ pc=if(s.store (s.regs d) o (s.second ⟨26,d,sr,r,o,nn⟩)).2≠0 then .err (s.store (s.regs d) o (s.second ⟨26,d,sr,r,o,nn⟩)).2 else .go (some ((s.store (s.regs d) o (s.second ⟨26,d,sr,r,o,nn⟩)).1,pc+1)) none:=by
 unfold VS.step;simp
theorem aN2(s:VS)(d sr:Nat)(r:Bool)(o nn pc:Int):s.step ⟨27,d,sr,r,o,nn⟩ pc=if(s.call nn).2≠0 then .err (s.call nn).2 else .go (some ((s.call nn).1,pc+1)) none:=by
 unfold VS.step;simp
theorem aN3(s:VS)(d sr:Nat)(r:Bool)(o nn pc:Int):s.step ⟨13,d,sr,r,o,nn⟩ pc=if(qJ 13 (s.regs d) (.num (eH 0))).2≠0 then .err (qJ 13 (s.regs d) (.num (eH 0))).2 else .go (some ({ s with regs:=upd s.regs d (qJ 13 (s.regs d) (.num (eH 0))).1},pc+1)) none:=by
 unfold VS.step VS.operand;simp[VS.gu]
theorem aN4(s:VS)(c:Int)(hc:c≤12)(d sr:Nat)(r:Bool)(o nn pc:Int):s.step ⟨c,d,sr,r,o,nn⟩ pc=if(qJ c (s.regs d) (s.second ⟨c,d,sr,r,o,nn⟩)).2≠0 then .err (qJ c (s.regs d) (s.second ⟨c,d,sr,r,o,nn⟩)).2 else .go (some ({ s with regs:=upd s.regs d (qJ c (s.regs d) (s.second ⟨c,d,sr,r,o,nn⟩)).1},pc+1)) none:=by
 unfold VS.step VS.operand;refine aud ?_;simp[VS.gu]
theorem aN5(s:VS)(c:Int)(hc:15≤c∧c≤24)(d sr:Nat)(r:Bool)(o nn pc:Int):s.step ⟨c,d,sr,r,o,nn⟩ pc=s.asks ⟨c,d,sr,r,o,nn⟩ pc:=by
 unfold VS.step;exact ap0
theorem aN6(s:VS)(d sr:Nat)(r:Bool)(o nn pc:Int):s.step ⟨14,d,sr,r,o,nn⟩ pc=.go (some (s,pc+1+o)) none:=by
 unfold VS.step;simp
theorem aN7(s:VS)(d sr:Nat)(r:Bool)(o nn pc:Int):s.step ⟨28,d,sr,r,o,nn⟩ pc=if(s.regs 0).kind=1 then .done (s.regs 0).b else if(s.regs 0).kind=0 then .err 8 else .err 1:=by
 unfold VS.step;simp
theorem aN8{code:Value}{k:Wk}(l:Int):∀ j,j<5→upd (Ew code k) 1 (aU l) j=Ew code ⟨l,k.ends⟩ j:=by
 intro j hj;by_cases h:j=1
 ·subst h;rw[upd_same];rfl
 ·rw[fB h];unfold Ew;simp only[h,if_false]
theorem aN9(S:Nat→Step)(a:Addr)(n cap b:Nat)(hcap:n≤cap)(hn2:n≤200)(hab:a.block≠b)(Uh:∀ j,j<n→Ue n j (S j))(HWR:∀ j,j<n→(S j).wrong=0)(anS:∀ j,j<n→In64 (S j).off):∀ f,WalkC S a n cap b f:=by
 intro f;induction f using Nat.strongRecOn with
 |_ f ih =>
 intro s pc k w hs hpc hf hk0 hk1 hke hc hI;refine KE ?_;intro HW0 hlt;have IH:=bW ih;have HP:=bW Uh;have avd:=bW HWR;have aOa:=bW anS;have HS:=bW hs;have HC:=bW hc;have HI:=bW hI;have Ho:=bW hke;obtain⟨R,hR⟩:∃ R,iO S f s pc k=R:=⟨_,rfl⟩;rw[hR];have HR:=bW hR;have hnb:w.heap.size≠b:=bQ;clear ih Uh HWR anS hs hc hI hke hR;go_enter Tryz.func77,Tryz.ntmps77;go_wp2_with fail;go_loopw [2] (fun p wr=>∃ (pc' f':Nat) (s':VS) (k':Wk),p=aU pc'∧pc'<n∧n≤pc'+f'∧f'≤f∧kG s'∧0≤k'.looks∧k'.looks≤4000∧(∀ e∈k'.ends,e.Ok)∧iO S f' s' pc' k'=R∧P.Img wr w.heap.size 81 (gQ fC s')∧P.Img wr b 5 (Ew (.slice (some a) n cap) k')∧But b w wr) (fun p _=>n-(intOf p).toNat)
 case atStart=>exact⟨pc,f,s,k,rfl,hpc,hf,Nat.le_refl _,HS.out,hk0,hk1,Ho.out,HR.out,Img.al7,HI.out.alloc _,(But.refl b w).alloc _⟩
 case round =>
  obtain⟨pc',f',s',k',rfl,agq,hf',hff,hs',hk0',Iu,aau,hrun,hIS,hIW,hB⟩:=hrel;obtain⟨f0',rfl⟩:∃ g,f'=g+1:=⟨f'-1,by omega⟩;obtain⟨lk,en⟩:=k';simp only at hk0' Iu aau;have hC':=HC.out.but hB hab;obtain⟨e0,e1,e2,e3,e4,e5⟩:=hC' pc' agq;have l0:=block_lt_of_cell e0;have ht:=HP.out pc' agq;have hw:=avd.out pc' agq;have hof:=aOa.out pc' agq;rw[agJ,Int.toNat_natCast]at hrun;generalize hT:S pc'=t at *;obtain⟨c,d,sr,r,o,nn⟩:=t;obtain⟨g1,g2,g3,g4⟩:=aeh hw;simp only at g1 g2 g3 g4 e0 e1 e2 e3 e4 e5 hrun;have hin:In64 nn:=ht.2.2;obtain⟨d,rfl⟩:=Int.eq_ofNat_of_zero_le g2.1;obtain⟨sr,rfl⟩:=Int.eq_ofNat_of_zero_le g2.2.2.1;refine aoR ?_;intro dN sN d1 s1;have pc1:(pc':Int)<n:=bQ;have pc2:(pc':Int)<200:=bQ;have pc0:(0:Int)≤pc':=bQ;have lk1:lk+1≤4001:=bQ;have c0:wr.cell? ⟨b,0,none⟩=some (.slice (some a) n cap):=hIW.cell 0 bQ;have c1:wr.cell? ⟨b,1,none⟩=some (aU lk):=hIW.cell 1 bQ;have w1':=hIW.free 1 bQ;have zb:b<wr.heap.size:=hIW.lt bQ;have zs:w.heap.size<wr.heap.size:=hIS.lt bQ;have IW1:P.Img (wr.setCell ⟨b,1,none⟩ (aU (lk+1))) b 5 (Ew (.slice (some a) n cap) ⟨lk+1,en⟩):=(hIW.set (j:=1) bQ _).congr (aN8 _);have IS1:P.Img (wr.setCell ⟨b,1,none⟩ (aU (lk+1))) w.heap.size 81 (gQ fC s'):=hIS.other (by simpa using Ne.symm hnb) _;have B1:But b w (wr.setCell ⟨b,1,none⟩ (aU (lk+1))):=hB.setCell (.inl rfl) _;have C1:Cells (wr.setCell ⟨b,1,none⟩ (aU (lk+1))) a S n:=hC'.but ((But.refl b wr).setCell (.inl rfl) _) hab
  have wV:=bW hrun;have HTE:=bW hT;have NS:=bW hs';have G8:=bW aau;have HTT:=bW ht;have HWR:=bW hw;have D6:Hid (In64 o):=hof;have HNB:=bW g4;have HIW:=bW IW1;have HIS:=bW IS1;have HB:=bW B1;have uS:=bW C1;clear hrun hT hs' aau ht hw hof g4 hIS hIW hB hC' IW1 IS1 B1 C1 e0 e1 e2 e3 e4 e5 l0;go_upto_region 3 with fail;have YJ:b<(wr.setCell ⟨b,1,none⟩ (aU (lk+1))).heap.size:=by simpa using zb
  have zs1:w.heap.size<(wr.setCell ⟨b,1,none⟩ (aU (lk+1))).heap.size:=by simpa using zs
  generalize wr.setCell ⟨b,1,none⟩ (aU (lk+1))=w1 at *;clear c0 c1 w1' zb zs;obtain⟨e0,e1,e2,e3,e4,e5⟩:=uS.out pc' agq;rw[HTE.out]at e0 e1 e2 e3 e4 e5;simp only at e0 e1 e2 e3 e4 e5;have l0:=block_lt_of_cell e0;have c0:w1.cell? ⟨b,0,none⟩=some (.slice (some a) n cap):=HIW.out.cell 0 bQ;have c1:w1.cell? ⟨b,1,none⟩=some (aU (lk+1)):=HIW.out.cell 1 bQ;by_cases hl:4000<lk+1
  ·have hr2:=wV.out;rw[dB hl]at hr2;subst hr2
   as_aux_lemma =>
    go_wp2_with fail;refine aki ?_;intro w3 q0 q1 q2 HB3;go_wp2_with fail;go_ret
    exact⟨_,rfl,.inr (.inr ⟨show(4:Int)≠0 by decide,_,rfl,q0,q1⟩),HIW.out.later HB3.out YJ,HB.out.trans (But.of HB3.out)⟩
  have hr2:=wV.out;rw[dw hl]at hr2;have ak1:=bW hr2;clear hr2 wV;go_upto_block 2 with fail
  generalize hW:World.alloc w1 _=wd;have IT:P.Img wd w1.heap.size 6 (aei ⟨c,d,sr,r,o,nn⟩):=by
   rw[←hW];refine Img.of_cells (heap_alloc_new w1 _) iC fun j hj=>?_;exact asx
  have hbd:Below w1.heap.size w1 wd:=hW▸(Below.refl _ _).alloc (Nat.le_refl _) _;clear hW;obtain⟨f0,f1,f2,f3,f4,f5⟩:=zM IT;simp only at f0 f1 f2 f3 f4 f5;have Ub:=bW (HIS.out.later hbd zs1);have Lm:=bW (HIW.out.later hbd YJ);have HCd:=bW (uS.out.later hbd);have YP:=bW (HB.out.trans (But.of hbd));have aPT:=bW IT;have zt:=IT.lt bQ;have zsd:w.heap.size<wd.heap.size:=Ub.out.lt bQ;have zbd:b<wd.heap.size:=Lm.out.lt bQ;have nst:¬w.heap.size=w1.heap.size:=bQ;clear hbd IT HIS HIW uS HB e0 e1 e2 e3 e4 e5 c0 c1;have hn1:c=28∨pc'+1<n:=by have:=HTT.out.1;simp only at this;omega
  go_cut [2,8] (fun p e wx=>∃ (q:Nat) (er:Int) (s2:VS),p=aU q∧e=aU er∧P.Img wx b 5 (Ew (.slice (some a) n cap) ⟨lk+1,en⟩)∧But b w wx∧agy n w.heap.size s' ⟨c,d,sr,r,o,nn⟩ pc' q er s2 wx)
  case first =>
   obtain⟨x0,x1,x2⟩:=acs Ub.out dN;obtain⟨y0,y1,y2⟩:=acs Ub.out sN;obtain⟨z0,z1,z2⟩:=acs Ub.out (bQ:0<11);simp only[Nat.zero_mul,Nat.zero_add]at z0 z1 z2;have hcl:c=28∨c=14∨(15≤c∧c≤24)∨c=25∨c=26∨c=27∨c=13∨c≤12:=bQ;rcases hcl with rfl|rfl|hc|rfl|rfl|rfl|rfl|hc
   ·as_aux_lemma =>
     have HST:=bW (aN7 s' d sr r o nn pc');by_cases e1:(s'.regs 0).kind=1
     ·have hs2:=HST.out;rw[dB e1]at hs2;have hr3:=ak1.out;rw[hs2]at hr3;have HR3:=bW hr3;have t1:=VF e1;have t0:=sZ (show(s'.regs 0).kind≠0 by omega);clear hs2 hr3 e1;have c2:wd.cell? ⟨b,2,none⟩=some (.bool (!en.isEmpty)):=Lm.out.cell 2 bQ;have c3:wd.cell? ⟨b,3,none⟩=some (aU (outOf en).lo):=Lm.out.cell 3 bQ;have c4:wd.cell? ⟨b,4,none⟩=some (aU (outOf en).hi):=Lm.out.cell 4 bQ;have w2:=Lm.out.free 2 bQ;have w3:=Lm.out.free 3 bQ;have w4:=Lm.out.free 4 bQ;generalize s'.regs 0=x at *;obtain⟨xk,⟨xl,xh⟩⟩:=x;simp only at t0 t1 z0 z1 z2;cases en with
      |nil =>
       go_upto_region 16 with fail;generalize hW:World.setCell (World.setCell wd _ _) _ _=wa;have IA:P.Img wa b 5 (upd (upd (Ew (.slice (some a) n cap) ⟨lk+1,[]⟩) 3 (aU xl)) 4 (aU xh)):=hW▸(Lm.out.set (j:=3) bQ _).set (j:=4) bQ _;have BA:But b wd wa:=hW▸((But.refl b wd).setCell (.inl rfl) _).setCell (.inl rfl) _;clear hW;have u3:wa.cell? ⟨b,3,none⟩=some (aU xl):=IA.cell 3 bQ;have u4:wa.cell? ⟨b,4,none⟩=some (aU xh):=IA.cell 4 bQ;have v1:=BA.cell z1 (show w.heap.size≠b by omega);have v2:=BA.cell z2 (show w.heap.size≠b by omega);have YL:=bW IA;have HBA:=bW (YP.out.trans BA);have zba:b<wa.heap.size:=IA.lt bQ;have k0:=cell_regrown u3;have k1:=cell_regrown u4;have k2:=cell_regrown v1;have k3:=cell_regrown v2;have CJ:∀ dr os,Calls Tryz.prog 109 #[.agg #[aU xl,aU xh],.agg #[aU xl,aU xh]] (Go.Sort.grow (redrawn wa dr) os) fun e w''=>e=.returned (.agg #[aU (min xl xl),aU (max xh xh)])∧∃ p:Regrown,w''=Go.Sort.grow (redrawn wa p.d) p.os:=fun dr os=>Calls.regrown_of (ajj _ _ _ _ _);have HCJ:=bW CJ;clear IA BA CJ u3 u4 v1 v2 c2 c3 c4 w2 w3 w4;refine YC 13 dF dF ?_;repeat (quiet_step (exact HCJ.out _ _))
       refine wpQuiet_nil ?_;intro wq hwq;have hbq:Below wa.heap.size wa wq:=by
        exact Q8
       clear hwq k0 k1 k2 k3;have IQ:=YL.out.later hbq zba;have qN:=bW IQ;have qA:=bW (HBA.out.trans (But.of hbq));have q2:=IQ.cell 2 bQ;have q3:=IQ.cell 3 bQ;have q4:=IQ.cell 4 bQ;have p2:=IQ.free 2 bQ;have p3:=IQ.free 3 bQ;have p4:=IQ.free 4 bQ;clear IQ hbq HCJ;go_wp2_with fail;refine NoPanic.normal ?_;go_wp2_with fail;go_ret
       rw[←HR3.out];refine⟨_,rfl,.inl ⟨rfl,rfl,rfl⟩,?_,?_⟩
       ·have K:=((qN.out.set (j:=3) bQ (aU (xl))).set (j:=4) bQ (aU (xh))).set (j:=2) bQ (.bool true);refine Img.congr (I:=upd (upd (upd (upd (upd (Ew (.slice (some a) n cap) ⟨lk+1,[]⟩) 3 (aU xl)) 4 (aU xh)) 3 (aU (xl))) 4 (aU (xh))) 2 (.bool true)) ?_ fun j hj=>?_
        ·first|exact K|exact K.drew
        ·show _=Ew (.slice (some a) n cap) ⟨lk+1,[]++[⟨xl,xh⟩]⟩ j;rcases j with _|_|_|_|_|j
         ·rfl
         ·rfl
         ·rfl
         ·simp[upd,Ew,outOf]
         ·simp[upd,Ew,outOf]
         ·omega
       ·exact aAT
      |cons eh en =>
       go_upto_region 16 with fail;have IA:=Lm.out;have BA:=But.refl b wd;have u3:=c3;have u4:=c4;have v1:=z1;have v2:=z2;have YL:=bW IA;have HBA:=bW (YP.out.trans BA);have zba:b<wd.heap.size:=IA.lt bQ;have k0:=cell_regrown u3;have k1:=cell_regrown u4;have k2:=cell_regrown v1;have k3:=cell_regrown v2;have CJ:∀ dr os,Calls Tryz.prog 109 #[.agg #[aU (outOf (eh::en)).lo,aU (outOf (eh::en)).hi],.agg #[aU xl,aU xh]] (Go.Sort.grow (redrawn wd dr) os) fun e w''=>e=.returned (.agg #[aU (min (outOf (eh::en)).lo xl),aU (max (outOf (eh::en)).hi xh)])∧∃ p:Regrown,w''=Go.Sort.grow (redrawn wd p.d) p.os:=fun dr os=>Calls.regrown_of (ajj _ _ _ _ _);have HCJ:=bW CJ;clear IA BA CJ u3 u4 v1 v2 c2 c3 c4 w2 w3 w4 z1 z2;refine YC 13 dF dF ?_;repeat (quiet_step (exact HCJ.out _ _))
       refine YE ?_;intro wq hwq hbq;clear hwq k0 k1 k2 k3;have IQ:=YL.out.later hbq zba;have qN:=bW IQ;have qA:=bW (HBA.out.trans (But.of hbq));have q2:=IQ.cell 2 bQ;have q3:=IQ.cell 3 bQ;have q4:=IQ.cell 4 bQ;have p2:=IQ.free 2 bQ;have p3:=IQ.free 3 bQ;have p4:=IQ.free 4 bQ;clear IQ hbq HCJ;go_wp2_with fail;refine NoPanic.normal ?_;go_wp2_with fail;go_ret
       rw[←HR3.out];refine⟨_,rfl,.inl ⟨rfl,rfl,rfl⟩,?_,?_⟩
       ·have K:=((qN.out.set (j:=3) bQ (aU (min (outOf (eh::en)).lo xl))).set (j:=4) bQ (aU (max (outOf (eh::en)).hi xh))).set (j:=2) bQ (.bool true);refine Img.congr (I:=upd (upd (upd (Ew (.slice (some a) n cap) ⟨lk+1,eh::en⟩) 3 (aU (min (outOf (eh::en)).lo xl))) 4 (aU (max (outOf (eh::en)).hi xh))) 2 (.bool true)) ?_ fun j hj=>?_
        ·first|exact K|exact K.drew
        ·show _=Ew (.slice (some a) n cap) ⟨lk+1,(eh::en)++[⟨xl,xh⟩]⟩ j;rcases j with _|_|_|_|_|j
         ·rfl
         ·rfl
         ·simp[upd,Ew]
         ·show aU _=aU (outOf ((eh::en)++[⟨xl,xh⟩])).lo;rw[aEd,dw dY];rfl
         ·show aU _=aU (outOf ((eh::en)++[⟨xl,xh⟩])).hi;rw[aEd,dw dY];rfl
         ·omega
       ·exact aAT
     ·by_cases e0:(s'.regs 0).kind=0
      ·have hs2:=HST.out;rw[dw e1,dB e0]at hs2;have hr3:=ak1.out;rw[hs2]at hr3;subst hr3;have t0:=VF e0;clear hs2 e0 e1;go_wp2_with fail;refine aki ?_;intro w3 q0 q1 q2 HB3;go_wp2_with fail;go_ret
       exact⟨_,rfl,.inr (.inr ⟨show(8:Int)≠0 by decide,_,rfl,q0,q1⟩),Lm.out.later HB3.out zbd,YP.out.trans (But.of HB3.out)⟩
      ·have hs2:=HST.out;rw[dw e1,dw e0]at hs2;have hr3:=ak1.out;rw[hs2]at hr3;subst hr3;have t0:=sZ e0;have t1:=sZ e1;clear hs2 e0 e1;go_wp2_with fail;refine aki ?_;intro w3 q0 q1 q2 HB3;go_wp2_with fail;go_ret
       exact⟨_,rfl,.inr (.inr ⟨show(1:Int)≠0 by decide,_,rfl,q0,q1⟩),Lm.out.later HB3.out zbd,YP.out.trans (But.of HB3.out)⟩
   ·as_aux_lemma =>
     obtain⟨o1,o2⟩:=HTT.out.2.1 (.inl rfl);simp only at o1 o2;obtain⟨o,rfl⟩:=Int.eq_ofNat_of_zero_le o1;have HST:=bW (aN6 s' d sr r o nn pc');go_wp2_with fail;go_meet
     go_light;refine⟨pc'+o,0,s',by go_num,rfl,Lm.out,YP.out,.inl ⟨rfl,by omega,by omega,NS.out,Ub.out,?_⟩⟩;rw[HST.out];congr 3
     push_cast
     omega
   ·as_aux_lemma =>
     have t28:=sZ (show c≠28 by omega);have t14:=sZ (show c≠14 by omega);have t15:15≤c:=hc.1;have t24:c≤24:=hc.2;have HST:=bW (aN5 s' c hc d sr r o nn pc');have CA:=bW (aM8 S a n cap b f0' hcap hn2 hab (IH.out f0' bQ) HP.out s' pc' ⟨lk+1,en⟩ wd NS.out agq bQ (by show 0≤lk+1;omega) (by show lk+1≤4000;omega) G8.out HCd.out Lm.out (HP.out pc' agq) (by rw[HTE.out];exact HWR.out) (by rw[HTE.out];exact hc));clear hc;go_wp2_with (first|(go_at_call 68;refine(N9 _ _).mono ?_;rintro e w' ⟨rfl,rfl⟩;rw[jX])|(with_reducible refine BJ iV 194 (.tmp 4) rfl w.heap.size 0 iV (iK fC s') _ (Img.iK Ub.out) Tryz.underlying194 rfl (VK _) ?_));refine CA.out.mono ?_;intro e w6 hp;obtain⟨v,rfl,hE,QB,JU⟩:=hp;have HE:=bW hE;have uD:=bW QB;have BG:=bW JU;clear hE QB JU;go_wp2_with fail;go_ret
     have hr3:=ak1.out;rw[HST.out,←HTE.out]at hr3;rw[←hr3];exact⟨_,rfl,HE.out,uD.out,YP.out.trans BG.out⟩
   ·as_aux_lemma =>
     have k0:=cell_regrown f0;have k1:=cell_regrown f1;have k2:=cell_regrown f2;have k4:=cell_regrown f4;have k5:=cell_regrown y0;have k6:=cell_regrown y1;have k7:=cell_regrown y2;have ho:In64 o:=D6.out;have cL:∀ dr os,Calls Tryz.prog 111 #[.pointer (some ⟨w.heap.size,0,none⟩),.agg #[aU (s'.regs sr).kind,aU (s'.regs sr).b.lo,aU (s'.regs sr).b.hi],aU o] (Go.Sort.grow (redrawn wd dr) os) fun e w'' =>
      e=.returned (.tuple #[.agg #[aU (s'.load (s'.regs sr) o).1.kind,aU (s'.load (s'.regs sr) o).1.b.lo,aU (s'.load (s'.regs sr) o).1.b.hi],aU (s'.load (s'.regs sr) o).2])∧∃ p:Regrown,w''=Go.Sort.grow (redrawn wd p.d) p.os:=fun dr os=>Calls.regrown_of (aMY w.heap.size s' _ (Ub.out.later (below_regrown wd dr os) zsd) (s'.regs sr) (NS.out.1 sr) o ho)
     have hst:=aN0 s' d sr r o nn pc';have hml:=NS.out.load (NS.out.1 sr) o;generalize s'.load (s'.regs sr) o=L at *;obtain⟨⟨JY,⟨ln,lc⟩⟩,le⟩:=L;refine ZE ?_;intro HST zU CL;clear hst hml cL ho;go_wp2_with (go_at_call 68;refine(N9 _ _).mono ?_;rintro e w' ⟨rfl,rfl⟩;rw[jX]);refine YC 15 dF dF ?_;repeat (quiet_step (first|exact CL.out _ _))
     refine YE ?_;intro wq hwq hbq;clear hwq;clear k0 k1 k2 k4 k5 k6 k7 f0 f1 f2 f3 f4 f5 x0 x1 x2 y0 y1 y2 z0 z1 z2;exact awv
   ·as_aux_lemma =>
     refine apZ ?_;intro k0 k1 k2 k3 k4 k8;have k5:=cell_regrown x0;have k6:=cell_regrown x1;have k7:=cell_regrown x2;have hst:=aN1 s' d sr r o nn pc';have hx:=NS.out.second (t:=⟨26,d,sr,r,o,nn⟩) hin;have cL:∀ dr os,Calls Tryz.prog 113 #[.pointer (some ⟨w.heap.size,0,none⟩),.agg #[aU 26,aU d,aU sr,.bool r,aU o,aU nn]] (Go.Sort.grow (redrawn wd dr) os) fun e w'' =>
      e=.returned (.agg #[aU (s'.second ⟨26,d,sr,r,o,nn⟩).kind,aU (s'.second ⟨26,d,sr,r,o,nn⟩).b.lo,aU (s'.second ⟨26,d,sr,r,o,nn⟩).b.hi])∧∃ p:Regrown,w''=Go.Sort.grow (redrawn wd p.d) p.os:=fun dr os=>Calls.regrown_of (avO w.heap.size s' _ (Ub.out.later (below_regrown wd dr os) zsd) 26 d sr r o nn sN)
     generalize s'.second ⟨26,d,sr,r,o,nn⟩=x at *;have hml:=NS.out.store (s'.regs d) o hx;refine ZE ?_;intro HST zU CL;clear hst hml cL hx;go_wp2_with (go_at_call 68;refine(N9 _ _).mono ?_;rintro e w' ⟨rfl,rfl⟩;rw[jX]);refine OD 9 dF dF ?_;repeat (quiet_step (first|exact CL.out _ _))
     refine YE ?_;intro wq hwq hbq;clear hwq;have aoV:=bW (Ub.out.later hbq zsd);have HWQ:=bW (Lm.out.later hbq zbd);have qA:=bW (YP.out.trans (But.of hbq));clear hbq k0 k1 k2 k3 k4 k5 k6 k7 k8 f0 f1 f2 f3 f4 f5 x0 x1 x2 y0 y1 y2 z0 z1 z2;go_wp2_with fail;refine(aM1 w.heap.size s' _ aoV.out (s'.regs d) (NS.out.1 d) o D6.out x).mono ?_;rintro e w3 ⟨rfl,JD,hb3⟩;have HW3:=bW (hb3.img HWQ.out bQ (Ne.symm hnb));have HB3:=bW (aeS qA.out hb3 (Nat.le_refl _));have HM3:=bW JD;clear hb3 JD;generalize s'.store (s'.regs d) o x=L at *;exact awG
   ·as_aux_lemma =>
     have hnn:1≤nn∧nn≤3:=asr HNB.out rfl;have hst:=aN2 s' d sr r o nn pc';have hml:=NS.out.call nn;have HST:=bW hst;have zU:=bW hml;have HNN:=bW hnn;clear hst hml hnn;go_wp2_with (go_at_call 68;refine(N9 _ _).mono ?_;rintro e w' ⟨rfl,rfl⟩;rw[jX]);refine(aM7 w.heap.size s' _ Ub.out nn HNN.out).mono ?_;rintro e w3 ⟨rfl,JD,hb3⟩;have HW3:=bW (hb3.img Lm.out bQ (Ne.symm hnb));have HB3:=bW (aeS YP.out hb3 (Nat.le_refl _));have HM3:=bW JD;clear hb3 JD;generalize s'.call nn=L at *;exact awG
   ·as_aux_lemma =>
     have k0:=cell_regrown f0;have k1:=cell_regrown f1;have k5:=cell_regrown x0;have k6:=cell_regrown x1;have k7:=cell_regrown x2;have cO:∀ dr os,Calls Tryz.prog 76 #[aU 0] (Go.Sort.grow (redrawn wd dr) os) fun e w''=>e=.returned (.agg #[aU 0,aU 0])∧∃ p:Regrown,w''=Go.Sort.grow (redrawn wd p.d) p.os:=fun dr os=>Calls.regrown_of (acW 0 _);have cN:∀ dr os,Calls Tryz.prog 116 #[.agg #[aU 0,aU 0]] (Go.Sort.grow (redrawn wd dr) os) fun e w''=>e=.returned (.agg #[aU 1,aU 0,aU 0])∧∃ p:Regrown,w''=Go.Sort.grow (redrawn wd p.d) p.os:=fun dr os=>Calls.regrown_of (ajD 0 0 _);have cL:∀ dr os,Calls Tryz.prog 115 #[aU 13,.agg #[aU (s'.regs d).kind,aU (s'.regs d).b.lo,aU (s'.regs d).b.hi],.agg #[aU 1,aU 0,aU 0]] (Go.Sort.grow (redrawn wd dr) os) fun e w'' =>
      e=.returned (.tuple #[.agg #[aU (qJ 13 (s'.regs d) (.num (eH 0))).1.kind,aU (qJ 13 (s'.regs d) (.num (eH 0))).1.b.lo,aU (qJ 13 (s'.regs d) (.num (eH 0))).1.b.hi],aU (qJ 13 (s'.regs d) (.num (eH 0))).2])∧∃ p:Regrown,w''=Go.Sort.grow (redrawn wd p.d) p.os:=fun dr os=>Calls.regrown_of (aEL 13 (s'.regs d) (.num (eH 0)) (NS.out.1 d) (iL.num (Dt N8)) _)
     have hst:=aN3 s' d sr r o nn pc';have hml:=aqI (c:=13) (NS.out.1 d) (iL.num (Dt N8));generalize qJ 13 (s'.regs d) (.num (eH 0))=L at *;obtain⟨⟨JY,⟨ln,lc⟩⟩,le⟩:=L;refine ZE ?_;intro HST zU CL;have CO:=bW cO;have CN:=bW cN;clear hst hml cL cO cN;go_wp2_with (go_at_call 68;refine(N9 _ _).mono ?_;rintro e w' ⟨rfl,rfl⟩;rw[jX]);refine YC 17 dF dF ?_;repeat (quiet_step (first|exact CL.out _ _|exact CO.out _ _|exact CN.out _ _))
     refine YE ?_;intro wq hwq hbq;clear hwq;clear k0 k1 k5 k6 k7 f0 f1 f2 f3 f4 f5 x0 x1 x2 y0 y1 y2 z0 z1 z2;exact awv
   ·as_aux_lemma =>
     have pn:pc'+1<n:=bQ;refine apZ ?_;intro k0 k1 k2 k3 k4 k8;have k5:=cell_regrown x0;have k6:=cell_regrown x1;have k7:=cell_regrown x2;have t28:=sZ (show c≠28 by omega);have t14:=sZ (show c≠14 by omega);have t25:=sZ (show c≠25 by omega);have t26:=sZ (show c≠26 by omega);have t27:=sZ (show c≠27 by omega);have t13:=sZ (show c≠13 by omega);have t15:decide (15≤c)=false:=eU;have hst:=aN4 s' c hc d sr r o nn pc';have hx:=NS.out.second (t:=⟨c,d,sr,r,o,nn⟩) hin;have cS:∀ dr os,Calls Tryz.prog 113 #[.pointer (some ⟨w.heap.size,0,none⟩),.agg #[aU c,aU d,aU sr,.bool r,aU o,aU nn]] (Go.Sort.grow (redrawn wd dr) os) fun e w'' =>
      e=.returned (.agg #[aU (s'.second ⟨c,d,sr,r,o,nn⟩).kind,aU (s'.second ⟨c,d,sr,r,o,nn⟩).b.lo,aU (s'.second ⟨c,d,sr,r,o,nn⟩).b.hi])∧∃ p:Regrown,w''=Go.Sort.grow (redrawn wd p.d) p.os:=fun dr os=>Calls.regrown_of (avO w.heap.size s' _ (Ub.out.later (below_regrown wd dr os) zsd) c d sr r o nn sN)
     generalize s'.second ⟨c,d,sr,r,o,nn⟩=x at *;have cL:∀ dr os,Calls Tryz.prog 115 #[aU c,.agg #[aU (s'.regs d).kind,aU (s'.regs d).b.lo,aU (s'.regs d).b.hi],.agg #[aU x.kind,aU x.b.lo,aU x.b.hi]] (Go.Sort.grow (redrawn wd dr) os) fun e w'' =>
      e=.returned (.tuple #[.agg #[aU (qJ c (s'.regs d) x).1.kind,aU (qJ c (s'.regs d) x).1.b.lo,aU (qJ c (s'.regs d) x).1.b.hi],aU (qJ c (s'.regs d) x).2])∧∃ p:Regrown,w''=Go.Sort.grow (redrawn wd p.d) p.os:=fun dr os=>Calls.regrown_of (aEL c (s'.regs d) x (NS.out.1 d) hx _)
     have hml:=aqI (c:=c) (NS.out.1 d) hx;generalize qJ c (s'.regs d) x=L at *;obtain⟨⟨JY,⟨ln,lc⟩⟩,le⟩:=L;have CS:=bW cS;clear cS hx hc;refine ZE ?_;intro HST zU CL;clear hst hml cL;go_wp2_with (go_at_call 68;refine(N9 _ _).mono ?_;rintro e w' ⟨rfl,rfl⟩;rw[jX]);refine YC 17 dF dF ?_;repeat (quiet_step (first|exact CL.out _ _|exact CS.out _ _))
     refine YE ?_;intro wq hwq hbq;clear hwq;clear k0 k1 k2 k3 k4 k5 k6 k7 k8 f0 f1 f2 f3 f4 f5 x0 x1 x2 y0 y1 y2 z0 z1 z2;have IQ:=Ub.out.later hbq zsd;have qN:=bW IQ;have HWQ:=bW (Lm.out.later hbq zbd);have qA:=bW (YP.out.trans (But.of hbq));have q0:=IQ.cell (d*3) bQ;have q1:=IQ.cell (d*3+1) bQ;have q2:=IQ.cell (d*3+2) bQ;have p0:=IQ.free (d*3) bQ;have p1:=IQ.free (d*3+1) bQ;have p2:=IQ.free (d*3+2) bQ;clear IQ hbq;go_wp2_with fail;refine NoPanic.normal ?_;go_wp2_with fail;go_meet
     go_light;refine⟨pc',le,{ s' with regs:=upd s'.regs d ⟨JY,⟨ln,lc⟩⟩},rfl,rfl,?_,?_,?_⟩
     ·(repeat' (first|with_reducible exact HWQ.out|with_reducible refine Img.drew ?_|with_reducible refine Img.other ?_ ?_ _|(simp;done)|(simp;omega)|omega))
     ·(repeat' (first|with_reducible exact qA.out|with_reducible refine But.drew ?_|with_reducible refine ase ?_ ?_ _|(simp;done)|(simp;omega)|omega))
     ·refine agy.pair HST.out pn (NS.out.aoC d zU.out) ?_;have K:=(((qN.out.set (j:=d*3) bQ (fC ⟨JY,⟨ln,lc⟩⟩ 0)).set (j:=d*3+1) bQ (fC ⟨JY,⟨ln,lc⟩⟩ 1)).set (j:=d*3+2) bQ (fC ⟨JY,⟨ln,lc⟩⟩ 2)).congr (Oy dN ⟨JY,⟨ln,lc⟩⟩);first|with_reducible exact K|with_reducible exact K.drew|exact K
  case rest =>
   as_aux_lemma =>
    obtain⟨q,er,s2,rfl,rfl,hW2,hB2,hS2⟩:=hcut;obtain⟨wx,hwx⟩:∃ x,x=wc:=⟨_,rfl⟩;subst hwx;have HW2:=bW hW2;have HB2:=bW hB2;have YB:b<wx.heap.size:=hW2.lt bQ;clear hW2 hB2;rcases hS2 with ⟨rfl,hq1,hq2,hmo,hma,hst⟩|⟨he,hq,hst⟩
    ·have hr2:=ak1.out;rw[hst,agT (fun h0=>(G7 HP.out f0' s2 _ ⟨lk+1,en⟩ hmo bQ (by exact_mod_cast hq2) NP).place h0)]at hr2;have HR2:=bW hr2;have HMA:=bW hma;have Hl:=bW hmo;clear hr2 hst hma hmo;go_wp2_with fail;go_roundw
     case rel =>
      go_light;exact⟨q+1,f0',s2,⟨lk+1,en⟩,by go_num,hq2,by omega,by omega,Hl.out,by show 0≤lk+1;omega,by show lk+1≤4000;omega,G8.out,HR2.out,HMA.out,HW2.out,HB2.out⟩
     case measure=>simp[intOf];omega
    ·subst hq;have hr2:=ak1.out;rw[hst]at hr2;subst hr2;have HE:=bW he;have t1:=aan he;have t0:=sZ he;clear hst he;go_wp2_with fail;refine aki ?_;intro w3 q0 q1 q2 HB3;go_wp2_with fail;go_ret
     exact⟨_,rfl,.inr (.inr ⟨HE.out,_,rfl,q0,q1⟩),HW2.out.later HB3.out YB,HB2.out.trans (But.of HB3.out)⟩
theorem aot{w:World}{b n:Nat}{c:Array Value}{t:TypeId}{I:Nat→Value}(hb:w.heap[b]?=some (.cells c t (0,0)))(e:c.toList=(List.range n).map I):Img w b n I:=by
 exact asf
theorem rC.set0{w:World}{v u:Value}{n p:Int}{g i:Nat}(h:rC w v n p)(h0:w.cell? ⟨g,0,none⟩=some (aU 0)):rC (w.setCell ⟨g,i,none⟩ u) v n p:=by
 rcases h with h|h|⟨hne,b,hv,e0,e1⟩
 ·exact .inl h
 ·exact .inr (.inl h)
 ·have hbg:b≠g:=by
   rintro rfl;rw[e0]at h0;simp at h0;exact hne h0
  have B:=(But.refl g w).setCell (p:=⟨g,i,none⟩) (.inl rfl) u;exact .inr (.inr ⟨hne,b,hv,B.cell e0 hbg,B.cell e1 hbg⟩)
def vz:VS:=⟨fun _=>.nil,fun _=>.nil⟩
def vz1:VS:={ vz with regs:=upd vz.regs 1 ⟨2,eH 0⟩}
theorem aEw:({ vz1 with regs:=upd vz1.regs 10 ⟨3,eH 0⟩}:VS)=VS.init:=by
 unfold VS.init vz1 vz;simp only;congr 1
 funext j
 unfold upd;by_cases h1:j=1
 ·subst h1;rfl
 ·by_cases h2:j=10
  ·subst h2;rfl
  ·rw[dw h2,dw h1,dw h1,dw h2]
def av8(w:World)(r:(Int × Int) × P.B)(e:Ending)(w':World):Prop:=∃ v,e=.returned (.tuple #[.agg #[aU r.2.lo,aU r.2.hi],v])∧rC w' v r.1.1 r.1.2∧Below w.heap.size w w'
theorem aEM(l:Value)(er p:Int)(he:er≠0)(w:World)(hch:∀ w',Below w.heap.size w w'→Calls Tryz.prog 40 #[l] w' fun e w''=>∃ v,e=.returned v∧rC w'' v er p∧Below w'.heap.size w' w'') :
  Calls Tryz.prog 43 #[l] w (av8 w ((er,p),kK)):=by
 refine fU ?_;intro HW0;have uw:=bW hch;clear hch;go_enter Tryz.func43,Tryz.ntmps43;go_wp2_with fail;refine(uw.out _ gI).mono ?_;rintro e w1 ⟨v,rfl,hE,hb⟩;obtain⟨ty,xv,rfl⟩:=hE.noIface he;refine apo ?_;intro hc1 hf1 hz1 HW1;have HE:=bW hE;clear hb hE;have z10:w.heap.size<w1.heap.size:=bQ
 (have rQ:w1.cell? ⟨w.heap.size,0,none⟩=some (aU 0):=fH;have uM:w1.frozen? ⟨w.heap.size,0,none⟩=false:=fO;have uN:w1.cell? ⟨w.heap.size,1,none⟩=some (aU 0):=fH;have uO:w1.frozen? ⟨w.heap.size,1,none⟩=false:=fO)
 clear hc1 hf1;have HNE:=bW he;clear he;go_wp2_with fail;refine bodyPost_ret (v:=.tuple #[.agg #[aU 0,aU 0],.iface ty xv]) ?_ rfl ⟨_,rfl,?_,jZ⟩
 ·simp[results,Tryz.results43,go_sem, *]
 ·exact(HE.out.set0 rQ).set0 (World.cell?_setCell_same w1 _ _ rQ)
theorem aOb(a:Addr)(n cap:Nat)(S:Nat→Step)(hn:1≤n)(hn2:n≤200)(hcap:n≤cap)(w:World)(hs:Cells w a S n)(hP:aar S n)
  (hch:∀ w',Below w.heap.size w w'→Calls Tryz.prog 40 #[.slice (some a) n cap] w' fun e w''=>∃ v,e=.returned v∧rC w'' v 0 (-1)∧Below w'.heap.size w' w'') :
  Calls Tryz.prog 43 #[.slice (some a) n cap] w (av8 w (if(uo S n).1.1≠0 then((uo S n).1,kK)else((0,-1),outOf (uo S n).2.ends))):=by
 refine fU ?_;intro HW0;obtain⟨R,hR⟩:∃ R,(if(uo S n).1.1≠0 then((uo S n).1,kK)else((0,-1),outOf (uo S n).2.ends))=R:=⟨_,rfl⟩;rw[hR];have HR:=bW hR;clear hR;have HP:=bW hP;clear hP;have uw:=bW hch;have HSS:=bW hs;have hab:a.block<w.heap.size:=aBC;clear hch hs;go_enter Tryz.func43,Tryz.ntmps43;go_wp2_with fail;refine(uw.out _ gI).mono ?_;rintro e w1 ⟨v,rfl,hE,hb⟩;obtain rfl:=hE.nil0 rfl;refine apo ?_;intro hc1 hf1 hz1 HW1;clear hb hE;have z10:w.heap.size<w1.heap.size:=bQ
 (have rQ:w1.cell? ⟨w.heap.size,0,none⟩=some (aU 0):=fH;have uM:w1.frozen? ⟨w.heap.size,0,none⟩=false:=fO;have uN:w1.cell? ⟨w.heap.size,1,none⟩=some (aU 0):=fH;have uO:w1.frozen? ⟨w.heap.size,1,none⟩=false:=fO)
 clear hc1 hf1;go_upto_region 6 with fail;generalize hW:World.alloc (World.alloc w1 _) _=w2;have IS:P.Img w2 (w1.heap.size+1) 81 (gQ fC vz):=by
  rw[←hW];exact aot aoL dF
 have IW:P.Img w2 w1.heap.size 5 (Ew (.slice (some a) n cap) ⟨0,[]⟩):=by
  rw[←hW];exact Img.alloc (aot (heap_alloc_new w1 _) dF) _
 have hb2:Below w1.heap.size w1 w2:=hW▸((Below.refl _ _).alloc (Nat.le_refl _) _).alloc dY _;clear hW;have arH:=bW IS;have arI:=bW IW;have adp:=bW (HW1.out.trans (hb2.mono bQ));have IR:P.Img w1 w.heap.size 2 (fun _=>aU 0):=fun j hj=>by
  rcases j with _|_|j
  ·exact⟨rQ,uM⟩
  ·exact⟨uN,uO⟩
  ·omega
 have YN:=bW (IR.later hb2 z10);have avU:=IS.lt bQ;have avV:=IW.lt bQ;have aOc:=YN.out.lt bQ;have aPU:w.heap.size≤w2.heap.size:=adp.out.size;clear IS IW hb2 IR rQ uM uN uO HW1;go_wp2_with fail;refine(acW 0 _).mono ?_;rintro e w3 ⟨rfl,hb⟩;have NI:=arH.out.later hb avU;have arJ:=bW (arI.out.later hb avV);have arK:=bW (adp.out.trans (hb.mono bQ));have arL:=bW (YN.out.later hb aOc);obtain⟨aPV,d0⟩:∃ v,w3.cell? ⟨w1.heap.size+1,3,none⟩=some v:=⟨_,NI.cell 3 bQ⟩;obtain⟨aPW,d1⟩:∃ v,w3.cell? ⟨w1.heap.size+1,4,none⟩=some v:=⟨_,NI.cell 4 bQ⟩;obtain⟨aPX,d2⟩:∃ v,w3.cell? ⟨w1.heap.size+1,5,none⟩=some v:=⟨_,NI.cell 5 bQ⟩;have g0:=NI.free 3 bQ;have g1:=NI.free 4 bQ;have g2:=NI.free 5 bQ;have arM:=bW NI;have yw3:w2.heap.size≤w3.heap.size:=hb.size;clear hb NI;go_upto_region 7 with fail;generalize hW:World.setCell (World.setCell (World.setCell w3 _ _) _ _) _ _=w4;have Iw4:P.Img w4 (w1.heap.size+1) 81 (gQ fC vz1):=by
  rw[←hW];have K:=(((arM.out.set (j:=3) bQ (fC ⟨2,eH 0⟩ 0)).set (j:=4) bQ (fC ⟨2,eH 0⟩ 1)).set (j:=5) bQ (fC ⟨2,eH 0⟩ 2)).congr (Oy (bQ:1<11) ⟨2,eH 0⟩);exact K
 have arN:=bW Iw4;have Bw4:But (w1.heap.size+1) w3 w4:=hW▸(((But.refl (w1.heap.size+1) w3).setCell (.inl rfl) _).setCell (.inl rfl) _).setCell (.inl rfl) _;have akP:=bW (Bw4.img arJ.out bQ bQ);have akQ:=bW (Bw4.img arL.out bQ bQ);have akR:=bW (show Below w.heap.size w w4 from hW▸((arK.out.setCell eU _).setCell eU _).setCell eU _);have avX:=Iw4.lt bQ;have avY:=akP.out.lt bQ;have aOd:=akQ.out.lt bQ;have aPY:w.heap.size≤w4.heap.size:=akR.out.size;clear hW Iw4 Bw4 d0 d1 d2 g0 g1 g2;go_wp2_with fail;refine(acW 0 _).mono ?_;rintro e w5 ⟨rfl,hb⟩;have NJ:=arN.out.later hb avX;have arO:=bW (akP.out.later hb avY);have arP:=bW (akR.out.trans (hb.mono bQ));have arQ:=bW (akQ.out.later hb aOd);obtain⟨aPZ,d0⟩:∃ v,w5.cell? ⟨w1.heap.size+1,30,none⟩=some v:=⟨_,NJ.cell 30 bQ⟩;obtain⟨aP0,d1⟩:∃ v,w5.cell? ⟨w1.heap.size+1,31,none⟩=some v:=⟨_,NJ.cell 31 bQ⟩;obtain⟨aP1,d2⟩:∃ v,w5.cell? ⟨w1.heap.size+1,32,none⟩=some v:=⟨_,NJ.cell 32 bQ⟩;have g0:=NJ.free 30 bQ;have g1:=NJ.free 31 bQ;have g2:=NJ.free 32 bQ;have arR:=bW NJ;have yw5:w4.heap.size≤w5.heap.size:=hb.size;clear hb NJ;go_upto_region 8 with fail;generalize hW:World.setCell (World.setCell (World.setCell w5 _ _) _ _) _ _=w6;have Iw6:P.Img w6 (w1.heap.size+1) 81 (gQ fC VS.init):=by
  rw[←hW];have K:=(((arR.out.set (j:=30) bQ (fC ⟨3,eH 0⟩ 0)).set (j:=31) bQ (fC ⟨3,eH 0⟩ 1)).set (j:=32) bQ (fC ⟨3,eH 0⟩ 2)).congr (Oy (bQ:10<11) ⟨3,eH 0⟩);rw[aEw]at K;exact K
 have aov:=bW Iw6;have Bw6:But (w1.heap.size+1) w5 w6:=hW▸(((But.refl (w1.heap.size+1) w5).setCell (.inl rfl) _).setCell (.inl rfl) _).setCell (.inl rfl) _;have adq:=bW (Bw6.img arO.out bQ bQ);have akS:=bW (Bw6.img arQ.out bQ bQ);have acy:=bW (show Below w.heap.size w w6 from hW▸((arP.out.setCell eU _).setCell eU _).setCell eU _);have aNz:=Iw6.lt bQ;have aNA:=adq.out.lt bQ;have aP2:=akS.out.lt bQ;have aP3:w.heap.size≤w6.heap.size:=acy.out.size;clear hW Iw6 Bw6 d0 d1 d2 g0 g1 g2;have HI0:=aov;have hC6:Cells w6 a S n:=HSS.out.later acy.out;have Ba:=bW hC6;clear hC6;go_wp2_with (first|(with_reducible refine BJ iV 194 (.tmp 6) rfl (w1.heap.size+1) 0 iV (iK fC VS.init) _ (Img.iK HI0.out) Tryz.underlying194 rfl (VK _) ?_));refine(aN9 S a n cap w1.heap.size hcap hn2 bQ HP.out.step HP.out.wrong HP.out.off n VS.init 0 ⟨0,[]⟩ w6 kG.init bQ bQ (Int.le_refl _) auW dY Ba.out adq.out).mono ?_;intro e w7 hp;obtain⟨v,rfl,hE,Oo,hB7⟩:=hp;have hE:rC w7 v (uo S n).1.1 (uo S n).1.2:=hE;have Oo:P.Img w7 w1.heap.size 5 (Ew (.slice (some a) n cap) (uo S n).2):=Oo;have IR7:=hB7.img akS.out bQ bQ;have r0:=IR7.cell 0 bQ;have r1:=IR7.cell 1 bQ;have t0:=IR7.free 0 bQ;have t1:=IR7.free 1 bQ;have HB7:=bW (acy.out.trans ((hB7.below bQ).mono bQ));have o3:w7.cell? ⟨w1.heap.size,3,none⟩=some (aU (outOf (uo S n).2.ends).lo):=Oo.cell 3 bQ
 have o4:w7.cell? ⟨w1.heap.size,4,none⟩=some (aU (outOf (uo S n).2.ends).hi):=Oo.cell 4 bQ;have hr:=HR.out;have nr:¬w.heap.size=w1.heap.size:=bQ;have nr2:¬w1.heap.size=w.heap.size:=bQ;clear hB7 Oo IR7 adq akS aov HI0 Ba acy;by_cases he:(uo S n).1.1=0
 ·rw[dw aeJ]at hr;subst hr;obtain rfl:=hE.nil0 he;generalize outOf (uo S n).2.ends=d at *;obtain⟨dl,dh⟩:=d;simp only at o3 o4;have HE:=bW he;clear hE he;go_wp2_with fail;refine bodyPost_ret (v:=.tuple #[.agg #[aU dl,aU dh],.nilIface]) ?_ rfl ⟨_,rfl,.inl ⟨rfl,rfl,rfl⟩,?_⟩
  ·simp[results,Tryz.results43,go_sem, *]
  ·exact(HB7.out.setCell dY _).setCell dY _
 ·rw[dB he]at hr;subst hr;obtain⟨ty,xv,rfl⟩:=hE.noIface he;have HE:=bW hE;have HNE:=bW he;clear hE he;go_wp2_with fail;refine bodyPost_ret (v:=.tuple #[.agg #[aU 0,aU 0],.iface ty xv]) ?_ rfl ⟨_,rfl,?_,?_⟩
  ·simp[results,Tryz.results43,go_sem, *]
  ·exact(HE.out.set0 r0).set0 (World.cell?_setCell_same w7 _ _ r0)
  ·exact(HB7.out.setCell dY _).setCell dY _
theorem aar.of{S:Nat→Step}{n:Nat}(h:(from_ S n 0 n).1=0)(hin:∀ j,j<n→In64 (S j).off∧In64 (S j).num):aar S n:=by
 have ok:=fun j (hj:j<n)=>aoI n 0 bQ h j bQ hj;exact⟨fun j hj=>aMF hj (ok j hj) (hin j hj).2,fun j hj=>(aoH (ok j hj)).1,fun j hj=>(hin j hj).1⟩
theorem auz(oa:Option Addr)(n cap:Nat)(S:Nat→Step)(hcap:n≤cap)(w:World)(hs:xY w oa S n)(hin:∀ j,j<n→In64 (S j).off∧In64 (S j).num)(hg:w.cell? ⟨5,0,none⟩=some (.iface 317 (.agg #[.pointer (some ⟨14,26,none⟩)]))) :
  Calls Tryz.prog 43 #[.slice oa n cap] w (av8 w (verify S n)):=by
 have gz:=block_lt_of_cell hg;unfold verify check;by_cases h:n<1∨200<n
 ·rw[dB h,dB dY];exact aEM _ 4 (-1) dS w fun w' hb=>(azt oa n cap h hcap w').mono fun e w'' ⟨he,hw⟩=>⟨_,he,.inr (.inl ⟨by decide,rfl,rfl⟩),by rw[hw];exact Below.refl _ _⟩
 ·rw[dw h];obtain⟨a,ea,hs2⟩:=hs bQ;subst ea;by_cases h0:(from_ S n 0 n).1=0
  ·rw[dw acT];refine aOb a n cap S bQ bQ hcap w hs2 (aar.of h0 hin) fun w' hb=>(apu a n cap S bQ bQ hcap w' (hs2.later hb) ((hb.cell gz).trans hg)).mono fun e w'' ⟨v,he,hv,hb2⟩=>⟨v,he,?_,hb2⟩;rw[amP _ _ h0]at hv;exact hv
  ·rw[dB h0];exact aEM _ _ _ h0 w fun w' hb=>(apu a n cap S bQ bQ hcap w' (hs2.later hb) ((hb.cell gz).trans hg)).mono fun e w'' ⟨v,he,hv,hb2⟩=>⟨v,he,hv,hb2⟩
end Go.Proofs.YtglilddlhibogaaGreatDoor.W
