/- A part of the proof; each theorem states its conditions. -/
import Derived.Test.YtglilddlhibogaaGreatDoorWalkRefB
set_option linter.unusedSimpArgs false
set_option linter.unusedVariables false
set_option maxRecDepth 100000
set_option maxHeartbeats 100000000
namespace Go.Proofs.YtglilddlhibogaaGreatDoor.W
open Go.RowKit Go.Proofs.YtglilddlhibogaaGreatDoor.P
theorem aIG(w:World)(o1 o2 o3 o4 o5:Obj):Below w.heap.size w (((((w.alloc o1).alloc o2).alloc o3).alloc o4).alloc o5).drew:=by
 exact azM
theorem aJx(al ah bl bh:Int)(ia:In64 al)(eP:In64 ah)(ib:In64 bl)(ib2:In64 bh)(w:World) :
  Calls Tryz.prog 146 #[aU 15,.agg #[aU al,aU ah],.agg #[aU bl,aU bh]] w fun e w'=>e=.returned (.tuple #[.agg #[aU (eX 15 ⟨al,ah⟩ ⟨bl,bh⟩).1.lo,aU (eX 15 ⟨al,ah⟩ ⟨bl,bh⟩).1.hi],.agg #[aU (eX 15 ⟨al,ah⟩ ⟨bl,bh⟩).2.1.lo,aU (eX 15 ⟨al,ah⟩ ⟨bl,bh⟩).2.1.hi],.bool (eX 15 ⟨al,ah⟩ ⟨bl,bh⟩).2.2])∧Below w.heap.size w w':=by
 refine fU ?_;intro HW0;have e:eX 15 ⟨al,ah⟩ ⟨bl,bh⟩=((ji ⟨al,ah⟩ ⟨bl,bh⟩).1,(ji ⟨al,ah⟩ ⟨bl,bh⟩).1,(ji ⟨al,ah⟩ ⟨bl,bh⟩).2):=rfl;rw[e];clear ia eP ib ib2 e;generalize hm:ji ⟨al,ah⟩ ⟨bl,bh⟩=m;have HM:=bW hm;clear hm;obtain⟨⟨ml,mh⟩,mb⟩:=m;go_enter Tryz.func146,Tryz.ntmps146;go_wp2_with fail;refine apM ?_;intro w1 hz1 HW1 z10 z11 z12 z13 NT zG Uz XM UA XP zH UC UD zI UE XR UF XT zJ UG XU UH XV zK UJ UK;go_wp2_with fail;go_region;go_wp2_with fail;exact bodyPost_ret (v:=.tuple #[.agg #[aU (ml),aU (mh)],.agg #[aU (ml),aU (mh)],.bool (mb)]) auf rfl ⟨by first|rfl|(simp[kK,BF];done),jZ⟩
theorem au9(al ah bl bh:Int)(ia:In64 al)(eP:In64 ah)(ib:In64 bl)(ib2:In64 bh)(w:World) :
  Calls Tryz.prog 146 #[aU 21,.agg #[aU al,aU ah],.agg #[aU bl,aU bh]] w fun e w'=>e=.returned (.tuple #[.agg #[aU (eX 21 ⟨al,ah⟩ ⟨bl,bh⟩).1.lo,aU (eX 21 ⟨al,ah⟩ ⟨bl,bh⟩).1.hi],.agg #[aU (eX 21 ⟨al,ah⟩ ⟨bl,bh⟩).2.1.lo,aU (eX 21 ⟨al,ah⟩ ⟨bl,bh⟩).2.1.hi],.bool (eX 21 ⟨al,ah⟩ ⟨bl,bh⟩).2.2])∧Below w.heap.size w w':=by
 refine fU ?_;intro HW0;have e0:eX 21 ⟨al,ah⟩ ⟨bl,bh⟩=pG ⟨al,ah⟩ ⟨bl,bh⟩ false:=rfl;rw[e0];clear e0;by_cases hx:bl=9223372036854775807∨ah=-9223372036854775808
 ·have e:pG ⟨al,ah⟩ ⟨bl,bh⟩ false=(kK,kK,false):=by unfold pG;rw[dB ⟨rfl,hx⟩]
  rw[e];clear e;by_cases hy:bl=9223372036854775807
  ·have b5:(bl==9223372036854775807)=true:=by simp[hy]
   exact aCl
  ·have b5:(bl==9223372036854775807)=false:=by simp[hy]
   have b6:(ah==-9223372036854775808)=true:=eU;exact aCl
 ·have e:pG ⟨al,ah⟩ ⟨bl,bh⟩ false=if !(ji ⟨al,ah⟩ ⟨bl+1,9223372036854775807⟩).2||!(ji ⟨bl,bh⟩ ⟨-9223372036854775808,ah-1⟩).2 then(kK,kK,false)else((ji ⟨al,ah⟩ ⟨bl+1,9223372036854775807⟩).1,(ji ⟨bl,bh⟩ ⟨-9223372036854775808,ah-1⟩).1,true):=by unfold pG;rw[dw (by simpa using hx)];rfl
  rw[e];clear e;have b1:bl+1≤9223372036854775807:=apG;have b2:-9223372036854775808≤bl+1:=apG;have b3:-9223372036854775808≤ah-1:=aqr;have b4:ah-1≤9223372036854775807:=aqr;have b5:(bl==9223372036854775807)=false:=eU;have b6:(ah==-9223372036854775808)=false:=eU;clear ia eP ib ib2 hx;generalize hm1:ji ⟨al,ah⟩ ⟨bl+1,9223372036854775807⟩=m1;generalize hm2:ji ⟨bl,bh⟩ ⟨-9223372036854775808,ah-1⟩=m2;exact aCm
theorem ava(al ah bl bh:Int)(ia:In64 al)(eP:In64 ah)(ib:In64 bl)(ib2:In64 bh)(w:World) :
  Calls Tryz.prog 146 #[aU 22,.agg #[aU al,aU ah],.agg #[aU bl,aU bh]] w fun e w'=>e=.returned (.tuple #[.agg #[aU (eX 22 ⟨al,ah⟩ ⟨bl,bh⟩).1.lo,aU (eX 22 ⟨al,ah⟩ ⟨bl,bh⟩).1.hi],.agg #[aU (eX 22 ⟨al,ah⟩ ⟨bl,bh⟩).2.1.lo,aU (eX 22 ⟨al,ah⟩ ⟨bl,bh⟩).2.1.hi],.bool (eX 22 ⟨al,ah⟩ ⟨bl,bh⟩).2.2])∧Below w.heap.size w w':=by
 refine fU ?_;intro HW0;have e0:eX 22 ⟨al,ah⟩ ⟨bl,bh⟩=pG ⟨al,ah⟩ ⟨bl,bh⟩ true:=rfl;rw[e0];clear e0;have e:pG ⟨al,ah⟩ ⟨bl,bh⟩ true=if !(ji ⟨al,ah⟩ ⟨bl,9223372036854775807⟩).2||!(ji ⟨bl,bh⟩ ⟨-9223372036854775808,ah⟩).2 then(kK,kK,false)else((ji ⟨al,ah⟩ ⟨bl,9223372036854775807⟩).1,(ji ⟨bl,bh⟩ ⟨-9223372036854775808,ah⟩).1,true):=by unfold pG;rw[dw dY];rfl
 rw[e];clear ia eP ib ib2 e;generalize hm1:ji ⟨al,ah⟩ ⟨bl,9223372036854775807⟩=m1;generalize hm2:ji ⟨bl,bh⟩ ⟨-9223372036854775808,ah⟩=m2;exact aCm
theorem aJy(al ah bl bh:Int)(ia:In64 al)(eP:In64 ah)(ib:In64 bl)(ib2:In64 bh)(w:World) :
  Calls Tryz.prog 146 #[aU 23,.agg #[aU al,aU ah],.agg #[aU bl,aU bh]] w fun e w'=>e=.returned (.tuple #[.agg #[aU (eX 23 ⟨al,ah⟩ ⟨bl,bh⟩).1.lo,aU (eX 23 ⟨al,ah⟩ ⟨bl,bh⟩).1.hi],.agg #[aU (eX 23 ⟨al,ah⟩ ⟨bl,bh⟩).2.1.lo,aU (eX 23 ⟨al,ah⟩ ⟨bl,bh⟩).2.1.hi],.bool (eX 23 ⟨al,ah⟩ ⟨bl,bh⟩).2.2])∧Below w.heap.size w w':=by
 refine fU ?_;intro HW0;have e:eX 23 ⟨al,ah⟩ ⟨bl,bh⟩=BF (eX 21 ⟨bl,bh⟩ ⟨al,ah⟩):=rfl;rw[e];refine ajw ?_;intro IA Eu IB uU;clear ia eP ib ib2 e;generalize hr:eX 21 ⟨bl,bh⟩ ⟨al,ah⟩=r;have HR:=bW hr;clear hr;obtain⟨⟨x1,x2⟩,⟨x3,x4⟩,xb⟩:=r;go_enter Tryz.func146,Tryz.ntmps146;go_wp2_with fail;refine(au9 _ _ _ _ IB.out uU.out IA.out Eu.out _).mono ?_;exact aqD
theorem aJz(al ah bl bh:Int)(ia:In64 al)(eP:In64 ah)(ib:In64 bl)(ib2:In64 bh)(w:World) :
  Calls Tryz.prog 146 #[aU 24,.agg #[aU al,aU ah],.agg #[aU bl,aU bh]] w fun e w'=>e=.returned (.tuple #[.agg #[aU (eX 24 ⟨al,ah⟩ ⟨bl,bh⟩).1.lo,aU (eX 24 ⟨al,ah⟩ ⟨bl,bh⟩).1.hi],.agg #[aU (eX 24 ⟨al,ah⟩ ⟨bl,bh⟩).2.1.lo,aU (eX 24 ⟨al,ah⟩ ⟨bl,bh⟩).2.1.hi],.bool (eX 24 ⟨al,ah⟩ ⟨bl,bh⟩).2.2])∧Below w.heap.size w w':=by
 refine fU ?_;intro HW0;have e:eX 24 ⟨al,ah⟩ ⟨bl,bh⟩=BF (eX 22 ⟨bl,bh⟩ ⟨al,ah⟩):=rfl;rw[e];refine ajw ?_;intro IA Eu IB uU;clear ia eP ib ib2 e;generalize hr:eX 22 ⟨bl,bh⟩ ⟨al,ah⟩=r;have HR:=bW hr;clear hr;obtain⟨⟨x1,x2⟩,⟨x3,x4⟩,xb⟩:=r;go_enter Tryz.func146,Tryz.ntmps146;go_wp2_with fail;refine(ava _ _ _ _ IB.out uU.out IA.out Eu.out _).mono ?_;exact aqD
theorem aCn(al ah bl bh:Int)(ia:In64 al)(eP:In64 ah)(ib:In64 bl)(ib2:In64 bh)(w:World) :
  Calls Tryz.prog 146 #[aU 19,.agg #[aU al,aU ah],.agg #[aU bl,aU bh]] w fun e w'=>e=.returned (.tuple #[.agg #[aU (eX 19 ⟨al,ah⟩ ⟨bl,bh⟩).1.lo,aU (eX 19 ⟨al,ah⟩ ⟨bl,bh⟩).1.hi],.agg #[aU (eX 19 ⟨al,ah⟩ ⟨bl,bh⟩).2.1.lo,aU (eX 19 ⟨al,ah⟩ ⟨bl,bh⟩).2.1.hi],.bool (eX 19 ⟨al,ah⟩ ⟨bl,bh⟩).2.2])∧Below w.heap.size w w':=by
 refine fU ?_;intro HW0;by_cases h0:bl<0
 ·have e:eX 19 ⟨al,ah⟩ ⟨bl,bh⟩=(⟨al,ah⟩,⟨bl,bh⟩,true):=aBR;rw[e];clear ia eP ib ib2 e;exact avb
 ·generalize hm1:ji ⟨al,ah⟩ ⟨0,9223372036854775807⟩=m1;have HM:=bW hm1;obtain⟨⟨Ie,Ig⟩,m1b⟩:=m1;cases m1b
  ·have e:eX 19 ⟨al,ah⟩ ⟨bl,bh⟩=(kK,kK,false):=ap4;exact aCo
  ·have e:eX 19 ⟨al,ah⟩ ⟨bl,bh⟩=BF (eX 21 ⟨bl,bh⟩ ⟨Ie,Ig⟩):=ap4;refine atx ?_;intro hmo;have IM:=bW hmo.1;have IM2:=bW hmo.2.1;have IB:=bW ib;have uU:=bW ib2;clear ia eP ib ib2 e hm1 hmo;generalize hr:eX 21 ⟨bl,bh⟩ ⟨Ie,Ig⟩=r;have HR:=bW hr;clear hr;obtain⟨⟨x1,x2⟩,⟨x3,x4⟩,xb⟩:=r;go_enter Tryz.func146,Tryz.ntmps146;go_wp2_with fail;refine apM ?_;intro w1 hz1 HW1 z10 z11 z12 z13 NT zG Uz XM UA XP zH UC UD zI UE XR UF XT zJ UG XU UH XV zK UJ UK;go_wp2_with fail;refine(au9 _ _ _ _ IB.out uU.out IM.out IM2.out _).mono ?_;exact aCp
theorem aCq(al ah bl bh:Int)(ia:In64 al)(eP:In64 ah)(ib:In64 bl)(ib2:In64 bh)(w:World) :
  Calls Tryz.prog 146 #[aU 20,.agg #[aU al,aU ah],.agg #[aU bl,aU bh]] w fun e w'=>e=.returned (.tuple #[.agg #[aU (eX 20 ⟨al,ah⟩ ⟨bl,bh⟩).1.lo,aU (eX 20 ⟨al,ah⟩ ⟨bl,bh⟩).1.hi],.agg #[aU (eX 20 ⟨al,ah⟩ ⟨bl,bh⟩).2.1.lo,aU (eX 20 ⟨al,ah⟩ ⟨bl,bh⟩).2.1.hi],.bool (eX 20 ⟨al,ah⟩ ⟨bl,bh⟩).2.2])∧Below w.heap.size w w':=by
 refine fU ?_;intro HW0;by_cases h0:bl<0
 ·have e:eX 20 ⟨al,ah⟩ ⟨bl,bh⟩=(⟨al,ah⟩,⟨bl,bh⟩,true):=aBR;rw[e];clear ia eP ib ib2 e;exact avb
 ·generalize hm1:ji ⟨al,ah⟩ ⟨0,9223372036854775807⟩=m1;have HM:=bW hm1;obtain⟨⟨Ie,Ig⟩,m1b⟩:=m1;cases m1b
  ·have e:eX 20 ⟨al,ah⟩ ⟨bl,bh⟩=(kK,kK,false):=ap4;exact aCo
  ·have e:eX 20 ⟨al,ah⟩ ⟨bl,bh⟩=BF (eX 22 ⟨bl,bh⟩ ⟨Ie,Ig⟩):=ap4;refine atx ?_;intro hmo;have IM:=bW hmo.1;have IM2:=bW hmo.2.1;have IB:=bW ib;have uU:=bW ib2;clear ia eP ib ib2 e hm1 hmo;generalize hr:eX 22 ⟨bl,bh⟩ ⟨Ie,Ig⟩=r;have HR:=bW hr;clear hr;obtain⟨⟨x1,x2⟩,⟨x3,x4⟩,xb⟩:=r;go_enter Tryz.func146,Tryz.ntmps146;go_wp2_with fail;refine apM ?_;intro w1 hz1 HW1 z10 z11 z12 z13 NT zG Uz XM UA XP zH UC UD zI UE XR UF XT zJ UG XU UH XV zK UJ UK;go_wp2_with fail;refine(ava _ _ _ _ IB.out uU.out IM.out IM2.out _).mono ?_;exact aCp
theorem aJA(al ah bl bh:Int)(ia:In64 al)(eP:In64 ah)(ib:In64 bl)(ib2:In64 bh)(w:World) :
  Calls Tryz.prog 146 #[aU 17,.agg #[aU al,aU ah],.agg #[aU bl,aU bh]] w fun e w'=>e=.returned (.tuple #[.agg #[aU (eX 17 ⟨al,ah⟩ ⟨bl,bh⟩).1.lo,aU (eX 17 ⟨al,ah⟩ ⟨bl,bh⟩).1.hi],.agg #[aU (eX 17 ⟨al,ah⟩ ⟨bl,bh⟩).2.1.lo,aU (eX 17 ⟨al,ah⟩ ⟨bl,bh⟩).2.1.hi],.bool (eX 17 ⟨al,ah⟩ ⟨bl,bh⟩).2.2])∧Below w.heap.size w w':=by
 refine fU ?_;intro HW0;have e:eX 17 ⟨al,ah⟩ ⟨bl,bh⟩=BF (eX 19 ⟨bl,bh⟩ ⟨al,ah⟩):=rfl;rw[e];refine ajw ?_;intro IA Eu IB uU;clear ia eP ib ib2 e;generalize hr:eX 19 ⟨bl,bh⟩ ⟨al,ah⟩=r;have HR:=bW hr;clear hr;obtain⟨⟨x1,x2⟩,⟨x3,x4⟩,xb⟩:=r;go_enter Tryz.func146,Tryz.ntmps146;go_wp2_with fail;refine(aCn _ _ _ _ IB.out uU.out IA.out Eu.out _).mono ?_;exact aqD
theorem aJB(al ah bl bh:Int)(ia:In64 al)(eP:In64 ah)(ib:In64 bl)(ib2:In64 bh)(w:World) :
  Calls Tryz.prog 146 #[aU 18,.agg #[aU al,aU ah],.agg #[aU bl,aU bh]] w fun e w'=>e=.returned (.tuple #[.agg #[aU (eX 18 ⟨al,ah⟩ ⟨bl,bh⟩).1.lo,aU (eX 18 ⟨al,ah⟩ ⟨bl,bh⟩).1.hi],.agg #[aU (eX 18 ⟨al,ah⟩ ⟨bl,bh⟩).2.1.lo,aU (eX 18 ⟨al,ah⟩ ⟨bl,bh⟩).2.1.hi],.bool (eX 18 ⟨al,ah⟩ ⟨bl,bh⟩).2.2])∧Below w.heap.size w w':=by
 refine fU ?_;intro HW0;have e:eX 18 ⟨al,ah⟩ ⟨bl,bh⟩=BF (eX 20 ⟨bl,bh⟩ ⟨al,ah⟩):=rfl;rw[e];refine ajw ?_;intro IA Eu IB uU;clear ia eP ib ib2 e;generalize hr:eX 20 ⟨bl,bh⟩ ⟨al,ah⟩=r;have HR:=bW hr;clear hr;obtain⟨⟨x1,x2⟩,⟨x3,x4⟩,xb⟩:=r;go_enter Tryz.func146,Tryz.ntmps146;go_wp2_with fail;refine(aCq _ _ _ _ IB.out uU.out IA.out Eu.out _).mono ?_;exact aqD
theorem aJC(al ah bl bh:Int)(ia:In64 al)(eP:In64 ah)(ib:In64 bl)(ib2:In64 bh)(ha:al≤ah)(hb:bl≤bh)(w:World) :
  Calls Tryz.prog 146 #[aU 16,.agg #[aU al,aU ah],.agg #[aU bl,aU bh]] w fun e w'=>e=.returned (.tuple #[.agg #[aU (eX 16 ⟨al,ah⟩ ⟨bl,bh⟩).1.lo,aU (eX 16 ⟨al,ah⟩ ⟨bl,bh⟩).1.hi],.agg #[aU (eX 16 ⟨al,ah⟩ ⟨bl,bh⟩).2.1.lo,aU (eX 16 ⟨al,ah⟩ ⟨bl,bh⟩).2.1.hi],.bool (eX 16 ⟨al,ah⟩ ⟨bl,bh⟩).2.2])∧Below w.heap.size w w':=by
 refine fU ?_;intro HW0;have IA:=bW ia;have Eu:=bW eP;have IB:=bW ib;have uU:=bW ib2;have OA:=bW ha;have OB:=bW hb;clear ia eP ib ib2 ha hb;by_cases h3:al=bl
 ·subst h3;by_cases h4:ah=bh
  ·subst h4;by_cases h2:al=ah
   ·have e:eX 16 ⟨al,ah⟩ ⟨al,ah⟩=(kK,kK,false):=by show Nz _ _=_;unfold Nz;rw[dB ⟨h2,rfl⟩]
    rw[e];clear e;have t1:(al==ah)=true:=Yy;clear h2;go_enter Tryz.func146,Tryz.ntmps146;exact aCr
   ·have e:eX 16 ⟨al,ah⟩ ⟨al,ah⟩=(lS ⟨al,ah⟩ ⟨al,ah⟩,lS ⟨al,ah⟩ ⟨al,ah⟩,true):=aue;rw[e];clear e;have t1:(al==ah)=false:=Yy;go_enter Tryz.func146,Tryz.ntmps146;go_wp2_with fail;go_region_held3 (fun w'=>w'.cell? ⟨w.heap.size,0,none⟩=some (aU al)∧w'.cell? ⟨w.heap.size,1,none⟩=some (aU ah)∧w'.cell? ⟨w.heap.size+1,0,none⟩=some (aU al)∧w'.cell? ⟨w.heap.size+1,1,none⟩=some (aU ah))
     (first|(simp[go_sem, *];done))
     (first|(go_at_call 176;refine(avc _ _ _ _ al4 al5 auO _).mono ?_;rintro e w1 ⟨rfl,hb⟩;obtain⟨hc,hf⟩:=jd hb;have hz:=hb.size;(try simp at hz);have z0:w.heap.size<w1.heap.size:=bQ;have z1:w.heap.size+1<w1.heap.size:=bQ;have z2:w.heap.size+1+1<w1.heap.size:=bQ;have z3:w.heap.size+1+1+1<w1.heap.size:=bQ;have z4:w.heap.size+1+1+1+1<w1.heap.size:=bQ;have hwn:Below w.heap.size w w1:=aum;clear hb))
    go_wp2_with fail;refine bodyPost_ret (v:=.tuple #[.agg #[aU ((lS ⟨al,ah⟩ ⟨al,ah⟩).lo),aU ((lS ⟨al,ah⟩ ⟨al,ah⟩).hi)],.agg #[aU ((lS ⟨al,ah⟩ ⟨al,ah⟩).lo),aU ((lS ⟨al,ah⟩ ⟨al,ah⟩).hi)],.bool true]) auI rfl ⟨rfl,?_⟩;exact apI
  ·have e:eX 16 ⟨al,ah⟩ ⟨al,bh⟩=(lS ⟨al,ah⟩ ⟨al,bh⟩,lS ⟨al,bh⟩ ⟨al,ah⟩,true):=aue;rw[e];clear e;go_enter Tryz.func146,Tryz.ntmps146;go_wp2_with fail;go_region_held3 (fun w'=>w'.cell? ⟨w.heap.size,0,none⟩=some (aU al)∧w'.cell? ⟨w.heap.size,1,none⟩=some (aU ah)∧w'.cell? ⟨w.heap.size+1,0,none⟩=some (aU al)∧w'.cell? ⟨w.heap.size+1,1,none⟩=some (aU bh))
    (first|(simp[go_sem, *];done))
    (first|(go_at_call 176;refine(avc _ _ _ _ al4 al5 auO _).mono ?_;rintro e w1 ⟨rfl,hb⟩;obtain⟨hc,hf⟩:=jd hb;have hz:=hb.size;(try simp at hz);have z0:w.heap.size<w1.heap.size:=bQ;have z1:w.heap.size+1<w1.heap.size:=bQ;have z2:w.heap.size+1+1<w1.heap.size:=bQ;have z3:w.heap.size+1+1+1<w1.heap.size:=bQ;have z4:w.heap.size+1+1+1+1<w1.heap.size:=bQ;have hwn:Below w.heap.size w w1:=aum;clear hb))
   go_wp2_with fail;refine bodyPost_ret (v:=.tuple #[.agg #[aU ((lS ⟨al,ah⟩ ⟨al,bh⟩).lo),aU ((lS ⟨al,ah⟩ ⟨al,bh⟩).hi)],.agg #[aU ((lS ⟨al,bh⟩ ⟨al,ah⟩).lo),aU ((lS ⟨al,bh⟩ ⟨al,ah⟩).hi)],.bool true]) auI rfl ⟨rfl,?_⟩;exact apI
 ·have e:eX 16 ⟨al,ah⟩ ⟨bl,bh⟩=(lS ⟨al,ah⟩ ⟨bl,bh⟩,lS ⟨bl,bh⟩ ⟨al,ah⟩,true):=aue;rw[e];clear e;go_enter Tryz.func146,Tryz.ntmps146;go_wp2_with fail;go_region_held3 (fun w'=>w'.cell? ⟨w.heap.size,0,none⟩=some (aU al)∧w'.cell? ⟨w.heap.size,1,none⟩=some (aU ah)∧w'.cell? ⟨w.heap.size+1,0,none⟩=some (aU bl)∧w'.cell? ⟨w.heap.size+1,1,none⟩=some (aU bh))
   (first|(simp[go_sem, *];done))
   (first|(go_at_call 176;refine(avc _ _ _ _ al4 al5 auO _).mono ?_;rintro e w1 ⟨rfl,hb⟩;obtain⟨hc,hf⟩:=jd hb;have hz:=hb.size;(try simp at hz);have z0:w.heap.size<w1.heap.size:=bQ;have z1:w.heap.size+1<w1.heap.size:=bQ;have z2:w.heap.size+1+1<w1.heap.size:=bQ;have z3:w.heap.size+1+1+1<w1.heap.size:=bQ;have z4:w.heap.size+1+1+1+1<w1.heap.size:=bQ;have hwn:Below w.heap.size w w1:=aum;clear hb))
  go_wp2_with fail;refine bodyPost_ret (v:=.tuple #[.agg #[aU ((lS ⟨al,ah⟩ ⟨bl,bh⟩).lo),aU ((lS ⟨al,ah⟩ ⟨bl,bh⟩).hi)],.agg #[aU ((lS ⟨bl,bh⟩ ⟨al,ah⟩).lo),aU ((lS ⟨bl,bh⟩ ⟨al,ah⟩).hi)],.bool true]) auI rfl ⟨rfl,?_⟩;exact apI
theorem aJD(c:Int)(hc:c<15∨24<c)(al ah bl bh:Int)(ia:In64 al)(eP:In64 ah)(ib:In64 bl)(ib2:In64 bh) (w:World) :
  Calls Tryz.prog 146 #[aU c,.agg #[aU al,aU ah],.agg #[aU bl,aU bh]] w fun e w'=>e=.returned (.tuple #[.agg #[aU (eX c ⟨al,ah⟩ ⟨bl,bh⟩).1.lo,aU (eX c ⟨al,ah⟩ ⟨bl,bh⟩).1.hi],.agg #[aU (eX c ⟨al,ah⟩ ⟨bl,bh⟩).2.1.lo,aU (eX c ⟨al,ah⟩ ⟨bl,bh⟩).2.1.hi],.bool (eX c ⟨al,ah⟩ ⟨bl,bh⟩).2.2])∧Below w.heap.size w w':=by
 refine fU ?_;intro HW0;have e:eX c ⟨al,ah⟩ ⟨bl,bh⟩=(⟨al,ah⟩,⟨bl,bh⟩,true):=by unfold eX;repeat rw[dw bQ]
 rw[e];clear ia eP ib ib2 e;have t15:(c==15)=false:=lW;have t16:(c==16)=false:=lW;have t17:(c==17)=false:=lW;have t18:(c==18)=false:=lW;have t19:(c==19)=false:=lW;have t20:(c==20)=false:=lW;have t21:(c==21)=false:=lW;have t22:(c==22)=false:=lW;have t23:(c==23)=false:=lW;have t24:(c==24)=false:=lW;clear hc;exact avb
theorem axn(c al ah bl bh:Int)(ia:In64 al)(eP:In64 ah)(ib:In64 bl)(ib2:In64 bh)(ha:al≤ah)(hb:bl≤bh)(w:World) :
  Calls Tryz.prog 146 #[aU c,.agg #[aU al,aU ah],.agg #[aU bl,aU bh]] w fun e w'=>e=.returned (.tuple #[.agg #[aU (eX c ⟨al,ah⟩ ⟨bl,bh⟩).1.lo,aU (eX c ⟨al,ah⟩ ⟨bl,bh⟩).1.hi],.agg #[aU (eX c ⟨al,ah⟩ ⟨bl,bh⟩).2.1.lo,aU (eX c ⟨al,ah⟩ ⟨bl,bh⟩).2.1.hi],.bool (eX c ⟨al,ah⟩ ⟨bl,bh⟩).2.2])∧Below w.heap.size w w':=by
 by_cases hc:c<15∨24<c
 ·exact aJD c hc al ah bl bh ia eP ib ib2 w
 have hc':c=15∨c=16∨c=17∨c=18∨c=19∨c=20∨c=21∨c=22∨c=23∨c=24:=bQ;rcases hc' with rfl|rfl|rfl|rfl|rfl|rfl|rfl|rfl|rfl|rfl
 ·exact aJx al ah bl bh ia eP ib ib2 w
 ·exact aJC al ah bl bh ia eP ib ib2 ha hb w
 ·exact aJA al ah bl bh ia eP ib ib2 w
 ·exact aJB al ah bl bh ia eP ib ib2 w
 ·exact aCn al ah bl bh ia eP ib ib2 w
 ·exact aCq al ah bl bh ia eP ib ib2 w
 ·exact au9 al ah bl bh ia eP ib ib2 w
 ·exact ava al ah bl bh ia eP ib ib2 w
 ·exact aJy al ah bl bh ia eP ib ib2 w
 ·exact aJz al ah bl bh ia eP ib ib2 w
end Go.Proofs.YtglilddlhibogaaGreatDoor.W
