/- A part of the proof; each theorem states its conditions. -/
import Derived.Test.YtglilddlhibogaaGreatDoorWalkBound
import Derived.Test.YtglilddlhibogaaGreatDoorZZ6
set_option linter.unusedSimpArgs false
set_option linter.unusedVariables false
set_option maxRecDepth 100000
set_option maxHeartbeats 100000000
namespace Go.Proofs.YtglilddlhibogaaGreatDoor.W
open Go.RowKit Go.Proofs.YtglilddlhibogaaGreatDoor.P
theorem aIf(al ah bl bh:Int)(ib:In64 bl)(ia:In64 ah)(w:World) :
  Calls Tryz.prog 183 #[.agg #[aU al,aU ah],.agg #[aU bl,aU bh],.bool false] w fun e w' =>
   e=.returned (.tuple #[.agg #[aU (pG ⟨al,ah⟩ ⟨bl,bh⟩ false).1.lo,aU (pG ⟨al,ah⟩ ⟨bl,bh⟩ false).1.hi],.agg #[aU (pG ⟨al,ah⟩ ⟨bl,bh⟩ false).2.1.lo,aU (pG ⟨al,ah⟩ ⟨bl,bh⟩ false).2.1.hi],.bool (pG ⟨al,ah⟩ ⟨bl,bh⟩ false).2.2])∧Below w.heap.size w w':=by
 by_cases hx:bl=9223372036854775807∨ah=-9223372036854775808
 ·have e:pG ⟨al,ah⟩ ⟨bl,bh⟩ false=(kK,kK,false):=by unfold pG;rw[dB ⟨rfl,hx⟩]
  rw[e];clear e;refine fU ?_;intro HW0;by_cases hy:bl=9223372036854775807
  ·have b5:(bl==9223372036854775807)=true:=by simp[hy]
   exact azK
  ·have b5:(bl==9223372036854775807)=false:=by simp[hy]
   have b6:(ah==-9223372036854775808)=true:=eU;exact azK
 ·have e:pG ⟨al,ah⟩ ⟨bl,bh⟩ false=if !(ji ⟨al,ah⟩ ⟨bl+1,9223372036854775807⟩).2||!(ji ⟨bl,bh⟩ ⟨-9223372036854775808,ah-1⟩).2 then(kK,kK,false)else((ji ⟨al,ah⟩ ⟨bl+1,9223372036854775807⟩).1,(ji ⟨bl,bh⟩ ⟨-9223372036854775808,ah-1⟩).1,true):=by
   unfold pG;rw[dw (by simpa using hx)];rfl
  rw[e];clear e;have b1:bl+1≤9223372036854775807:=apG;have b2:-9223372036854775808≤bl+1:=apG;have b3:-9223372036854775808≤ah-1:=apH;have b4:ah-1≤9223372036854775807:=apH;have b5:(bl==9223372036854775807)=false:=eU;have b6:(ah==-9223372036854775808)=false:=eU;clear ia ib hx;generalize hm1:ji ⟨al,ah⟩ ⟨bl+1,9223372036854775807⟩=m1;generalize hm2:ji ⟨bl,bh⟩ ⟨-9223372036854775808,ah-1⟩=m2;exact azL
theorem aIg(al ah bl bh:Int)(ib:In64 bl)(ia:In64 ah)(w:World) :
  Calls Tryz.prog 183 #[.agg #[aU al,aU ah],.agg #[aU bl,aU bh],.bool true] w fun e w' =>
   e=.returned (.tuple #[.agg #[aU (pG ⟨al,ah⟩ ⟨bl,bh⟩ true).1.lo,aU (pG ⟨al,ah⟩ ⟨bl,bh⟩ true).1.hi],.agg #[aU (pG ⟨al,ah⟩ ⟨bl,bh⟩ true).2.1.lo,aU (pG ⟨al,ah⟩ ⟨bl,bh⟩ true).2.1.hi],.bool (pG ⟨al,ah⟩ ⟨bl,bh⟩ true).2.2])∧Below w.heap.size w w':=by
 have e:pG ⟨al,ah⟩ ⟨bl,bh⟩ true=if !(ji ⟨al,ah⟩ ⟨bl,9223372036854775807⟩).2||!(ji ⟨bl,bh⟩ ⟨-9223372036854775808,ah⟩).2 then(kK,kK,false)else((ji ⟨al,ah⟩ ⟨bl,9223372036854775807⟩).1,(ji ⟨bl,bh⟩ ⟨-9223372036854775808,ah⟩).1,true):=by
  unfold pG;rw[dw dY];rfl
 rw[e];clear e ia ib;generalize hm1:ji ⟨al,ah⟩ ⟨bl,9223372036854775807⟩=m1;generalize hm2:ji ⟨bl,bh⟩ ⟨-9223372036854775808,ah⟩=m2;exact azL
theorem att(al ah bl bh:Int)(same:Bool)(ib:In64 bl)(ia:In64 ah)(w:World) :
  Calls Tryz.prog 183 #[.agg #[aU al,aU ah],.agg #[aU bl,aU bh],.bool same] w fun e w' =>
   e=.returned (.tuple #[.agg #[aU (pG ⟨al,ah⟩ ⟨bl,bh⟩ same).1.lo,aU (pG ⟨al,ah⟩ ⟨bl,bh⟩ same).1.hi],.agg #[aU (pG ⟨al,ah⟩ ⟨bl,bh⟩ same).2.1.lo,aU (pG ⟨al,ah⟩ ⟨bl,bh⟩ same).2.1.hi],.bool (pG ⟨al,ah⟩ ⟨bl,bh⟩ same).2.2])∧Below w.heap.size w w':=by
 cases same
 ·exact aIf al ah bl bh ib ia w
 ·exact aIg al ah bl bh ib ia w
theorem awV(al ah bl bh:Int)(ia:In64 al)(eP:In64 ah)(w:World) :
  Calls Tryz.prog 206 #[.agg #[aU al,aU ah],.agg #[aU bl,aU bh]] w fun e w'=>e=.returned (.agg #[aU ((lS ⟨al,ah⟩ ⟨bl,bh⟩).lo),aU ((lS ⟨al,ah⟩ ⟨bl,bh⟩).hi)])∧Below w.heap.size w w':=by
 refine fU ?_;intro HW0;have b1:-9223372036854775808≤al:=ia.1;have b2:ah≤9223372036854775807:=eP.2;clear ia eP;by_cases h1:bl=bh
 ·have t1:(bl==bh)=true:=AO;by_cases h2:al<ah
  ·by_cases h3:al=bl
   ·have e:lS ⟨al,ah⟩ ⟨bl,bh⟩=⟨al+1,ah⟩:=by unfold lS;rw[dB ⟨h1,h2⟩,dB h3]
    rw[e];have t2:(al==bl)=true:=YO;clear e h1 h3;go_enter Tryz.func206,Tryz.ntmps206;go_wp2_with fail;exact bodyPost_ret (v:=.agg #[aU (al+1),aU (ah)]) atu rfl ⟨rfl,gI⟩
   ·have t2:(al==bl)=false:=YO;by_cases h4:ah=bl
    ·have e:lS ⟨al,ah⟩ ⟨bl,bh⟩=⟨al,ah-1⟩:=by unfold lS;rw[dB ⟨h1,h2⟩,dw h3,dB h4]
     rw[e];have t3:(ah==bl)=true:=by simp[h4]
     clear e h1 h3 h4;go_enter Tryz.func206,Tryz.ntmps206;go_wp2_with fail;exact bodyPost_ret (v:=.agg #[aU (al),aU (ah-1)]) atu rfl ⟨rfl,gI⟩
    ·have e:lS ⟨al,ah⟩ ⟨bl,bh⟩=⟨al,ah⟩:=by unfold lS;rw[dB ⟨h1,h2⟩,dw h3,dw h4]
     rw[e];have t3:(ah==bl)=false:=by simp[h4]
     clear e h1 h3 h4;exact atv
  ·have e:lS ⟨al,ah⟩ ⟨bl,bh⟩=⟨al,ah⟩:=by unfold lS;rw[dw (fun h=>h2 h.2)]
   rw[e];clear e h1;exact atv
 ·have e:lS ⟨al,ah⟩ ⟨bl,bh⟩=⟨al,ah⟩:=by unfold lS;rw[dw (fun h=>h1 h.1)]
  rw[e];have t1:(bl==bh)=false:=AO;clear e h1;exact atv
theorem aIh(w:World)(o1 o2 o3 o4:Obj):Below w.heap.size w ((((w.alloc o1).alloc o2).alloc o3).alloc o4).drew:=by
 exact azM
theorem aIi(al ah bl bh:Int)(ia:In64 al)(eP:In64 ah)(ib:In64 bl)(ib2:In64 bh)(w:World) :
  Calls Tryz.prog 182 #[.agg #[aU al,aU ah],.agg #[aU bl,aU bh]] w fun e w'=>e=.returned (.tuple #[.agg #[aU (Nz ⟨al,ah⟩ ⟨bl,bh⟩).1.lo,aU (Nz ⟨al,ah⟩ ⟨bl,bh⟩).1.hi],.agg #[aU (Nz ⟨al,ah⟩ ⟨bl,bh⟩).2.1.lo,aU (Nz ⟨al,ah⟩ ⟨bl,bh⟩).2.1.hi],.bool (Nz ⟨al,ah⟩ ⟨bl,bh⟩).2.2])∧Below w.heap.size w w':=by
 refine fU ?_;intro HW0;refine ajw ?_;intro IA Eu IB uU;clear ia eP ib ib2;by_cases h1:al=ah∧al=bl∧ah=bh
 ·obtain⟨rfl,rfl,rfl⟩:=h1;have e:Nz ⟨al,al⟩ ⟨al,al⟩=(kK,kK,false):=by unfold Nz;simp
  rw[e];clear e;go_enter Tryz.func182,Tryz.ntmps182;go_wp2_with fail;exact bodyPost_ret (v:=.tuple #[.agg #[aU 0,aU 0],.agg #[aU 0,aU 0],.bool false]) (by simp[results,Tryz.results182,go_sem]) rfl ⟨rfl,gI⟩
 ·have e:Nz ⟨al,ah⟩ ⟨bl,bh⟩=(lS ⟨al,ah⟩ ⟨bl,bh⟩,lS ⟨bl,bh⟩ ⟨al,ah⟩,true):=by
   unfold Nz;rw[dw];rintro ⟨h2,h3⟩;rw[B.mk.injEq]at h3;exact h1 ⟨h2,h3⟩
  rw[e];clear e;by_cases h2:al=ah
  ·have t1:(al==ah)=true:=Yy;by_cases h3:al=bl
   ·subst h3;have h4:¬ah=bh:=fun h=>h1 ⟨h2,rfl,h⟩;clear h1 h2;go_enter Tryz.func182,Tryz.ntmps182;go_wp2_with fail;go_region_held3 (fun w'=>w'.cell? ⟨w.heap.size,0,none⟩=some (aU al)∧w'.cell? ⟨w.heap.size,1,none⟩=some (aU ah)∧w'.cell? ⟨w.heap.size+1,0,none⟩=some (aU al)∧w'.cell? ⟨w.heap.size+1,1,none⟩=some (aU bh))
     (first|(simp[go_sem, *];done))
     (first|(go_at_call 206;refine(awV _ _ _ _ al4 al5 _).mono ?_;rintro e w1 ⟨rfl,hb⟩;obtain⟨hc,hf⟩:=jd hb;have hz:=hb.size;(try simp at hz);have z0:w.heap.size<w1.heap.size:=bQ;have z1:w.heap.size+1<w1.heap.size:=bQ;have z2:w.heap.size+1+1<w1.heap.size:=bQ;have z3:w.heap.size+1+1+1<w1.heap.size:=bQ;have hwn:Below w.heap.size w w1:=awW;clear hb))
    go_wp2_with fail;refine bodyPost_ret (v:=.tuple #[.agg #[aU ((lS ⟨al,ah⟩ ⟨al,bh⟩).lo),aU ((lS ⟨al,ah⟩ ⟨al,bh⟩).hi)],.agg #[aU ((lS ⟨al,bh⟩ ⟨al,ah⟩).lo),aU ((lS ⟨al,bh⟩ ⟨al,ah⟩).hi)],.bool true]) (by simp[results,Tryz.results182,go_sem, *]) rfl ⟨rfl,?_⟩;exact apI
   ·exact awU
  ·have t1:(al==ah)=false:=Yy;exact awU
theorem azN(al ah bl bh:Int)(same:Bool)(ia:In64 al)(eP:In64 ah)(ib:In64 bl)(ib2:In64 bh)(w:World) :
  Calls Tryz.prog 184 #[.agg #[aU al,aU ah],.agg #[aU bl,aU bh],.bool same] w fun e w'=>e=.returned (.tuple #[.agg #[aU (zD ⟨al,ah⟩ ⟨bl,bh⟩ same).1.lo,aU (zD ⟨al,ah⟩ ⟨bl,bh⟩ same).1.hi],.agg #[aU (zD ⟨al,ah⟩ ⟨bl,bh⟩ same).2.1.lo,aU (zD ⟨al,ah⟩ ⟨bl,bh⟩ same).2.1.hi],.bool (zD ⟨al,ah⟩ ⟨bl,bh⟩ same).2.2])∧Below w.heap.size w w':=by
 refine fU ?_;intro HW0;by_cases h0:bl<0
 ·have e:zD ⟨al,ah⟩ ⟨bl,bh⟩ same=(⟨al,ah⟩,⟨bl,bh⟩,true):=by unfold zD;rw[dB h0]
  rw[e];clear e ia eP ib ib2;go_enter Tryz.func184,Tryz.ntmps184;go_wp2_with fail;go_region;go_wp2_with fail;exact bodyPost_ret (v:=.tuple #[.agg #[aU (al),aU (ah)],.agg #[aU (bl),aU (bh)],.bool true]) (by simp[results,Tryz.results184,go_sem]) rfl ⟨rfl,gI⟩
 ·generalize hm1:ji ⟨al,ah⟩ ⟨0,9223372036854775807⟩=m1;have HM:=bW hm1;obtain⟨⟨Ie,Ig⟩,m1b⟩:=m1;cases m1b
  ·have e:zD ⟨al,ah⟩ ⟨bl,bh⟩ same=(kK,kK,false):=by unfold zD;rw[dw h0,hm1];rfl
   rw[e];clear e ia eP ib ib2 hm1;go_enter Tryz.func184,Tryz.ntmps184;go_wp2_with fail;refine(amR _ _ _ _ _).mono ?_;rw[HM.out];refine atw ?_;intro w1 hz1 HW1 z10 z11 z12 z13 OE V7 OG V9 OH Wn OI Wp Rt Yl Ru Ym OJ Wq OL Ws;go_wp2_with fail;exact bodyPost_ret (v:=.tuple #[.agg #[aU 0,aU 0],.agg #[aU 0,aU 0],.bool false]) (by simp[results,Tryz.results184,go_sem,OE,OG,OH,OI,Rt,Ru,OJ,OL]) rfl ⟨by simp[kK],jZ⟩
  ·have e:zD ⟨al,ah⟩ ⟨bl,bh⟩ same=BF (pG ⟨bl,bh⟩ ⟨Ie,Ig⟩ same):=by unfold zD;rw[dw h0,hm1];rfl
   refine atx ?_;intro hmo;have IM:=bW hmo.1;have uU:=bW ib2;clear e ia eP ib ib2 hm1 hmo;generalize ho:pG ⟨bl,bh⟩ ⟨Ie,Ig⟩ same=o;have HO:=bW ho;clear ho;obtain⟨⟨ol,oh⟩,⟨pl,ph⟩,ob⟩:=o;go_enter Tryz.func184,Tryz.ntmps184;go_wp2_with fail;refine(amR _ _ _ _ _).mono ?_;rw[HM.out];refine atw ?_;intro w1 hz1 HW1 z10 z11 z12 z13 OE V7 OG V9 OH Wn OI Wp Rt Yl Ru Ym OJ Wq OL Ws;go_wp2_with fail;refine(att _ _ _ _ _ IM.out uU.out _).mono ?_;rw[HO.out];refine aIj ?_;intro w2 hz2 HW2 z20 z21 z22 z23 amS aty amT atz amU atA amV atB amW atC amX atG amY atH amZ atI;go_wp2_with fail;go_region;go_wp2_with fail;exact bodyPost_ret (v:=.tuple #[.agg #[aU (pl),aU (ph)],.agg #[aU (ol),aU (oh)],.bool ob]) (by simp[results,Tryz.results184,go_sem,amS,amT,amU,amV,amW,amX,amY,amZ]) rfl ⟨by simp[BF],Uu⟩
theorem aIk(c:Int)(hc:P.asks c=true)(w:World) :
  Calls Tryz.prog 150 #[aU c] w fun e w'=>e=.returned (aU (NU c))∧w=w':=by
 have i0:∀ w,(Instr.index 335 (.agg #[aU 16,aU 15,aU 20,aU 19,aU 18,aU 17,aU 24,aU 23,aU 22,aU 21]) (aU 0)).run Tryz.prog w=.ok (aU 16) w:=fun _=>by kernel_rfl
 have i1:∀ w,(Instr.index 335 (.agg #[aU 16,aU 15,aU 20,aU 19,aU 18,aU 17,aU 24,aU 23,aU 22,aU 21]) (aU 1)).run Tryz.prog w=.ok (aU 15) w:=fun _=>by kernel_rfl
 have i2:∀ w,(Instr.index 335 (.agg #[aU 16,aU 15,aU 20,aU 19,aU 18,aU 17,aU 24,aU 23,aU 22,aU 21]) (aU 2)).run Tryz.prog w=.ok (aU 20) w:=fun _=>by kernel_rfl
 have i3:∀ w,(Instr.index 335 (.agg #[aU 16,aU 15,aU 20,aU 19,aU 18,aU 17,aU 24,aU 23,aU 22,aU 21]) (aU 3)).run Tryz.prog w=.ok (aU 19) w:=fun _=>by kernel_rfl
 have i4:∀ w,(Instr.index 335 (.agg #[aU 16,aU 15,aU 20,aU 19,aU 18,aU 17,aU 24,aU 23,aU 22,aU 21]) (aU 4)).run Tryz.prog w=.ok (aU 18) w:=fun _=>by kernel_rfl
 have i5:∀ w,(Instr.index 335 (.agg #[aU 16,aU 15,aU 20,aU 19,aU 18,aU 17,aU 24,aU 23,aU 22,aU 21]) (aU 5)).run Tryz.prog w=.ok (aU 17) w:=fun _=>by kernel_rfl
 have i6:∀ w,(Instr.index 335 (.agg #[aU 16,aU 15,aU 20,aU 19,aU 18,aU 17,aU 24,aU 23,aU 22,aU 21]) (aU 6)).run Tryz.prog w=.ok (aU 24) w:=fun _=>by kernel_rfl
 have i7:∀ w,(Instr.index 335 (.agg #[aU 16,aU 15,aU 20,aU 19,aU 18,aU 17,aU 24,aU 23,aU 22,aU 21]) (aU 7)).run Tryz.prog w=.ok (aU 23) w:=fun _=>by kernel_rfl
 have i8:∀ w,(Instr.index 335 (.agg #[aU 16,aU 15,aU 20,aU 19,aU 18,aU 17,aU 24,aU 23,aU 22,aU 21]) (aU 8)).run Tryz.prog w=.ok (aU 22) w:=fun _=>by kernel_rfl
 have i9:∀ w,(Instr.index 335 (.agg #[aU 16,aU 15,aU 20,aU 19,aU 18,aU 17,aU 24,aU 23,aU 22,aU 21]) (aU 9)).run Tryz.prog w=.ok (aU 21) w:=fun _=>by kernel_rfl
 rcases atJ hc with rfl|rfl|rfl|rfl|rfl|rfl|rfl|rfl|rfl|rfl
 all_goals
  clear hc;go_enter Tryz.func150,Tryz.ntmps150;go_wp2_with fail;go_ret
  exact⟨rfl,rfl⟩
end Go.Proofs.YtglilddlhibogaaGreatDoor.W
