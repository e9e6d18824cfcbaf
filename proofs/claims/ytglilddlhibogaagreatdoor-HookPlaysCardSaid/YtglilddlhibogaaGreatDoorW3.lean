/- A part of the proof; each theorem states its conditions. -/
import Derived.Test.YtglilddlhibogaaGreatDoorW2
set_option linter.unusedSimpArgs false
set_option linter.unusedVariables false
set_option maxRecDepth 100000
set_option maxHeartbeats 100000000
namespace Go.Proofs.YtglilddlhibogaaGreatDoor.W
open Go.RowKit Go.Proofs.YtglilddlhibogaaGreatDoor.P
theorem aGV(lo hi:Int)(w:World) :
  Calls Tryz.prog 149 #[.agg #[.int .u8 110,aU lo,aU hi]] w fun e w'=>e=.returned (.bool false)∧w.alloc (.cells #[.int .u8 110,aU lo,aU hi] 180)=w':=amr 1 lo hi dY w
theorem aGW(ka la ha lb hb:Int)(hp:ka=2∨ka=3∨ka=4)(oa:P.B.Ok ⟨la,ha⟩)(ob:P.B.Ok ⟨lb,hb⟩)(w:World)(hg:nH w) :
  Calls Tryz.prog 107 #[aU 2,.agg #[.int .u8 (letter ka),aU la,aU ha],.agg #[.int .u8 110,aU lb,aU hb]] w fun e w' =>
   e=.returned (.tuple #[.agg #[.int .u8 (if dV 2 ⟨la,ha⟩ ⟨lb,hb⟩=fP then 0 else letter ka),aU (if dV 2 ⟨la,ha⟩ ⟨lb,hb⟩=fP then 0 else(dV 2 ⟨la,ha⟩ ⟨lb,hb⟩).lo),aU (if dV 2 ⟨la,ha⟩ ⟨lb,hb⟩=fP then 0 else(dV 2 ⟨la,ha⟩ ⟨lb,hb⟩).hi)],aU (if dV 2 ⟨la,ha⟩ ⟨lb,hb⟩=fP then 2 else 0)])∧Below w.heap.size w w':=by
 have gz:=hg.lt;refine fU ?_;intro HW0;have XF:=bW hp;have ta:=mV (show letter ka≠0 from fun e=>by rcases hp with rfl|rfl|rfl<;>simp[letter]at e);have tb:=mV (show letter ka≠110 from fun e=>by rcases hp with rfl|rfl|rfl<;>simp[letter]at e);clear hp;have C:=bW (fun w (hg:nH w)=>ams 2 la ha lb hb oa.1 oa.2.1 ob.1 ob.2.1 oa.2.2 ob.2.2 w hg.1 hg.2 hg.lt);generalize dV 2 ⟨la,ha⟩ ⟨lb,hb⟩=d at *;obtain⟨dl,dh⟩:=d;refine asR ?_;intro hd HD HG;clear oa ob hd hg;go_enter Tryz.func107,Tryz.ntmps107;go_wp2_with (first|(go_at_call 149;with_reducible refine(aGV _ _ _).mono ?_;rintro e w' ⟨rfl,rfl⟩)|(go_at_call 149;with_reducible refine(agZ ka _ _ XF.out _).mono ?_;rintro e w' ⟨rfl,rfl⟩));exact ayi
theorem aGX(ka la ha lb hb:Int)(hp:ka=2∨ka=3∨ka=4)(oa:P.B.Ok ⟨la,ha⟩)(ob:P.B.Ok ⟨lb,hb⟩)(w:World)(hg:nH w) :
  Calls Tryz.prog 107 #[aU 3,.agg #[.int .u8 (letter ka),aU la,aU ha],.agg #[.int .u8 110,aU lb,aU hb]] w fun e w' =>
   e=.returned (.tuple #[.agg #[.int .u8 (if dV 3 ⟨la,ha⟩ ⟨lb,hb⟩=fP then 0 else letter ka),aU (if dV 3 ⟨la,ha⟩ ⟨lb,hb⟩=fP then 0 else(dV 3 ⟨la,ha⟩ ⟨lb,hb⟩).lo),aU (if dV 3 ⟨la,ha⟩ ⟨lb,hb⟩=fP then 0 else(dV 3 ⟨la,ha⟩ ⟨lb,hb⟩).hi)],aU (if dV 3 ⟨la,ha⟩ ⟨lb,hb⟩=fP then 2 else 0)])∧Below w.heap.size w w':=by
 have gz:=hg.lt;refine fU ?_;intro HW0;have XF:=bW hp;have ta:=mV (show letter ka≠0 from fun e=>by rcases hp with rfl|rfl|rfl<;>simp[letter]at e);have tb:=mV (show letter ka≠110 from fun e=>by rcases hp with rfl|rfl|rfl<;>simp[letter]at e);clear hp;have C:=bW (fun w (hg:nH w)=>ams 3 la ha lb hb oa.1 oa.2.1 ob.1 ob.2.1 oa.2.2 ob.2.2 w hg.1 hg.2 hg.lt);generalize dV 3 ⟨la,ha⟩ ⟨lb,hb⟩=d at *;obtain⟨dl,dh⟩:=d;refine asR ?_;intro hd HD HG;clear oa ob hd hg;go_enter Tryz.func107,Tryz.ntmps107;go_wp2_with (first|(go_at_call 149;with_reducible refine(agZ ka _ _ XF.out _).mono ?_;rintro e w' ⟨rfl,rfl⟩));exact ayi
theorem aGY(la ha kb lb hb:Int)(hp:kb=2∨kb=3∨kb=4)(oa:P.B.Ok ⟨la,ha⟩)(ob:P.B.Ok ⟨lb,hb⟩)(w:World)(hg:nH w) :
  Calls Tryz.prog 107 #[aU 2,.agg #[.int .u8 110,aU la,aU ha],.agg #[.int .u8 (letter kb),aU lb,aU hb]] w fun e w' =>
   e=.returned (.tuple #[.agg #[.int .u8 (if dV 2 ⟨lb,hb⟩ ⟨la,ha⟩=fP then 0 else letter kb),aU (if dV 2 ⟨lb,hb⟩ ⟨la,ha⟩=fP then 0 else(dV 2 ⟨lb,hb⟩ ⟨la,ha⟩).lo),aU (if dV 2 ⟨lb,hb⟩ ⟨la,ha⟩=fP then 0 else(dV 2 ⟨lb,hb⟩ ⟨la,ha⟩).hi)],aU (if dV 2 ⟨lb,hb⟩ ⟨la,ha⟩=fP then 2 else 0)])∧Below w.heap.size w w':=by
 have gz:=hg.lt;refine fU ?_;intro HW0;have HPB:=bW hp;have ta:=mV (show letter kb≠0 from fun e=>by rcases hp with rfl|rfl|rfl<;>simp[letter]at e);have tb:=mV (show letter kb≠110 from fun e=>by rcases hp with rfl|rfl|rfl<;>simp[letter]at e);clear hp;have C:=bW (fun w (hg:nH w)=>ams 2 lb hb la ha ob.1 ob.2.1 oa.1 oa.2.1 ob.2.2 oa.2.2 w hg.1 hg.2 hg.lt);generalize dV 2 ⟨lb,hb⟩ ⟨la,ha⟩=d at *;obtain⟨dl,dh⟩:=d;refine asR ?_;intro hd HD HG;clear oa ob hd hg;go_enter Tryz.func107,Tryz.ntmps107;go_wp2_with (first|(go_at_call 149;with_reducible refine(agZ kb _ _ HPB.out _).mono ?_;rintro e w' ⟨rfl,rfl⟩));refine amu ?_
 (rintro e w1 ⟨rfl,hb⟩;obtain⟨hc1,hf1⟩:=jd hb;have hz1:=hb.size;(try simp at hz1);have HW1:=bW (show Below w.heap.size w w1 from Below.trans gI (hb.mono fD));clear hb;have z10:w.heap.size<w1.heap.size:=bQ;have z11:w.heap.size+1<w1.heap.size:=bQ;have z12:w.heap.size+1+1<w1.heap.size:=bQ;have z13:w.heap.size+1+1+1<w1.heap.size:=bQ)
 have hga:=HG.out.later HW1.out;have gz1:=hga.lt;obtain⟨hg0,hg1⟩:=hga
 (have rQ:w1.cell? ⟨w.heap.size,0,none⟩=some (.int .u8 (letter kb)):=fH;have uM:w1.frozen? ⟨w.heap.size,0,none⟩=false:=fO;have uN:w1.cell? ⟨w.heap.size,1,none⟩=some (aU lb):=fH;have uO:w1.frozen? ⟨w.heap.size,1,none⟩=false:=fO;have yU:w1.cell? ⟨w.heap.size,2,none⟩=some (aU hb):=fH;have yX:w1.frozen? ⟨w.heap.size,2,none⟩=false:=fO)
 (have zX:w1.cell? ⟨w.heap.size+1,0,none⟩=some (.int .u8 110):=fH;have zZ:w1.frozen? ⟨w.heap.size+1,0,none⟩=false:=fO;have Af:w1.cell? ⟨w.heap.size+1,1,none⟩=some (aU la):=fH;have Ah:w1.frozen? ⟨w.heap.size+1,1,none⟩=false:=fO;have Ai:w1.cell? ⟨w.heap.size+1,2,none⟩=some (aU ha):=fH;have Aj:w1.frozen? ⟨w.heap.size+1,2,none⟩=false:=fO)
 refine ape ?_;intro Tf Ti Tj Tm Tn Tq;have ng:¬4=w1.heap.size:=bQ;clear hc1 hf1 HG;by_cases e:dl=-9223372036854775808∧dh=9223372036854775807
 ·have yes:=bW (HD.out.2 e);obtain⟨rfl,rfl⟩:=e;go_wp2_with fail;refine bodyPost_ret (v:=.tuple #[.agg #[.int .u8 0,aU 0,aU 0],aU 2]) ?_ rfl ⟨by have ye:=yes.out;first|rfl|simp[ye],jZ⟩;exact apf
 ·have NE:=bW (show¬((⟨dl,dh⟩:P.B)=fP)from fun h=>e (HD.out.1 h));clear HD;by_cases e1:dl=-9223372036854775808
  ·have e2:¬dh=9223372036854775807:=fun h=>e ⟨e1,h⟩;subst e1;have e3:=mV e2;clear e e2;go_wp2_with fail;refine bodyPost_ret (v:=.tuple #[.agg #[.int .u8 (letter kb),aU (-9223372036854775808),aU dh],aU 0]) ?_ rfl ⟨by have ne:=NE.out;first|rfl|simp[ne],jZ⟩;exact apf
  ·have e3:=mV e1;clear e e1;go_wp2_with fail;refine bodyPost_ret (v:=.tuple #[.agg #[.int .u8 (letter kb),aU dl,aU dh],aU 0]) ?_ rfl ⟨by have ne:=NE.out;first|rfl|simp[ne],jZ⟩;exact apf
theorem aGZ(c:Int)(a b:Wh)(ha:iL a)(hb:iL b)(w:World)(hg:nH w) :
  Calls Tryz.prog 107 #[aU c,.agg #[.int .u8 (letter a.kind),aU a.b.lo,aU a.b.hi],.agg #[.int .u8 (letter b.kind),aU b.b.lo,aU b.b.hi]] w fun e w' =>
   e=.returned (.tuple #[.agg #[.int .u8 (letter (qJ c a b).1.kind),aU (qJ c a b).1.b.lo,aU (qJ c a b).1.b.hi],aU (qJ c a b).2])∧Below w.heap.size w w':=by
 obtain⟨ka,⟨la,ga⟩⟩:=a;obtain⟨kb,⟨lb,gb⟩⟩:=b;obtain⟨ka',oa⟩:=ha;obtain⟨kb',ob⟩:=hb;simp only at ka' kb' oa ob;have DZ:wI ka:=ka';have okb:wI kb:=kb';unfold qJ;simp only;by_cases h1:kb=0∨(ka=0∧c≠1)
 ·rw[dB h1];exact aG0 c ka la ga kb lb gb DZ okb h1 w
 rw[dw h1];by_cases h2:c=1
 ·subst h2;rw[dB rfl];exact aG1 ka la ga kb lb gb DZ okb bQ w
 rw[dw h2];by_cases h3:ka=1∧kb=1
 ·rw[dB h3];obtain⟨rfl,rfl⟩:=h3;exact aG2 c la ga lb gb h2 oa ob w hg
 rw[dw h3];have a0:ka≠0:=bQ;have b0:kb≠0:=bQ;by_cases h4:c=2∧ka=1
 ·rw[dB h4];obtain⟨rfl,rfl⟩:=h4;unfold Wy;simp only;by_cases h5:kb=5
  ·rw[dB bQ];exact ayj 1 la ga kb lb gb DZ okb a0 b0 (.inl rfl) (.inr h5) h3 w
  ·rw[dw bQ];refine(aGY la ga kb lb gb bQ oa ob w hg).mono fun e w' he=>⟨he.1.trans ?_,he.2⟩;split<;>rfl
 ·rw[dw h4];unfold Wy;simp only;by_cases h5:kb≠1∨ka=5∨(c≠2∧c≠3)
  ·rw[dB h5];by_cases hc:c=2
   ·subst hc;by_cases hp:kb=2∨kb=3∨kb=4
    ·exact aG3 ka la ga kb lb gb DZ okb a0 b0 bQ hp w
    ·by_cases hq:ka=1∨ka=5
     ·exact ayj ka la ga kb lb gb DZ okb a0 b0 hq bQ h3 w
     ·exact aG4 ka la ga kb lb gb DZ okb a0 b0 bQ bQ w
   ·by_cases hq:ka=1∨ka=5
    ·exact aG5 c ka la ga kb lb gb DZ okb a0 b0 h2 hc hq h3 w
    ·by_cases hk:kb=1
     ·exact aG6 c ka la ga kb lb gb DZ okb a0 b0 h2 hc bQ bQ hk w
     ·exact aG7 c ka la ga kb lb gb DZ okb a0 b0 h2 hc bQ hk w
  ·rw[dw h5];obtain rfl:kb=1:=bQ;have c23:c=2∨c=3:=bQ;rcases c23 with rfl|rfl
   ·refine(aGW ka la ga lb gb bQ oa ob w hg).mono fun e w' he=>⟨he.1.trans ?_,he.2⟩;split<;>rfl
   ·refine(aGX ka la ga lb gb bQ oa ob w hg).mono fun e w' he=>⟨he.1.trans ?_,he.2⟩;split<;>rfl
end Go.Proofs.YtglilddlhibogaaGreatDoor.W
