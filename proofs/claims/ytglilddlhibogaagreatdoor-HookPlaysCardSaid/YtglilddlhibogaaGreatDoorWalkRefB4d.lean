/- A part of the proof; each theorem states its conditions. -/
import Derived.Test.YtglilddlhibogaaGreatDoorWalkBound4
import Derived.Test.YtglilddlhibogaaGreatDoorWalkRefB
set_option linter.unusedSimpArgs false
set_option linter.unusedVariables false
set_option maxRecDepth 100000
set_option maxHeartbeats 100000000
namespace Go.Proofs.YtglilddlhibogaaGreatDoor.W
open Go.RowKit Go.Proofs.YtglilddlhibogaaGreatDoor.P
theorem awm{al ah bl bh:Int}(s0:-2147483648≤al)(t0:al≤2147483648)(s1:-2147483648≤ah)(t1:ah≤2147483648)(s2:-2147483648≤bl)(t2:bl≤2147483648)(s3:-2147483648≤bh)(t3:bh≤2147483648) :
  Oq ⟨al,ah⟩ ⟨bl,bh⟩=⟨min (al*bl) (min (al*bh) (min (ah*bl) (ah*bh))),max (al*bl) (max (al*bh) (max (ah*bl) (ah*bh)))⟩:=by
 unfold Oq;rw[dB (by simp[small, *])];simp only[wU,eH,B.mk.injEq];constructor<;>omega
theorem NM{al ah bl bh:Int}(h:¬(-2147483648≤al∧al≤2147483648∧-2147483648≤ah∧ah≤2147483648∧-2147483648≤bl∧bl≤2147483648∧-2147483648≤bh∧bh≤2147483648)) :
  Oq ⟨al,ah⟩ ⟨bl,bh⟩=fP:=by
 unfold Oq;rw[dw];simp only[small,Bool.and_eq_true,decide_eq_true_eq];intro h';exact h bQ
theorem times_any(al ah bl bh:Int)(w:World) :
  Calls Tryz.prog 189 #[.agg #[aU al,aU ah],.agg #[aU bl,aU bh]] w fun e w'=>e=.returned (.agg #[aU ((Oq ⟨al,ah⟩ ⟨bl,bh⟩).lo),aU ((Oq ⟨al,ah⟩ ⟨bl,bh⟩).hi)])∧Below w.heap.size w w':=by
 by_cases l0:al < -2147483648
 ·rw[NM bQ];exact aE1 al ah bl bh  l0 w
 by_cases g0:2147483648<al
 ·rw[NM bQ];exact aE2 al ah bl bh  g0 w
 have s0:-2147483648≤al:=bQ;have t0:al≤2147483648:=bQ;by_cases l1:ah < -2147483648
 ·rw[NM bQ];exact aE3 al ah bl bh s0 t0 l1 w
 by_cases g1:2147483648<ah
 ·rw[NM bQ];exact aE4 al ah bl bh s0 t0 g1 w
 have s1:-2147483648≤ah:=bQ;have t1:ah≤2147483648:=bQ;by_cases l2:bl < -2147483648
 ·rw[NM bQ];exact aE5 al ah bl bh s0 t0 s1 t1 l2 w
 by_cases g2:2147483648<bl
 ·rw[NM bQ];exact aE6 al ah bl bh s0 t0 s1 t1 g2 w
 have s2:-2147483648≤bl:=bQ;have t2:bl≤2147483648:=bQ;by_cases l3:bh < -2147483648
 ·rw[NM bQ];exact aE7 al ah bl bh s0 t0 s1 t1 s2 t2 l3 w
 by_cases g3:2147483648<bh
 ·rw[NM bQ];exact aE8 al ah bl bh s0 t0 s1 t1 s2 t2 g3 w
 have s3:-2147483648≤bh:=bQ;have t3:bh≤2147483648:=bQ;rw[awm s0 t0 s1 t1 s2 t2 s3 t3];exact aE9 al ah bl bh s0 t0 s1 t1 s2 t2 s3 t3 w
theorem aFa(al ah bl bh:Int) (w:World) :
  Calls Tryz.prog 154 #[aU 1,.agg #[aU al,aU ah],.agg #[aU bl,aU bh]] w fun e w'=>e=.returned (.agg #[aU ((dV 1 ⟨al,ah⟩ ⟨bl,bh⟩).lo),aU ((dV 1 ⟨al,ah⟩ ⟨bl,bh⟩).hi)])∧Below w.heap.size w w':=by
 refine fU ?_;intro HW0;have e:dV 1 ⟨al,ah⟩ ⟨bl,bh⟩=⟨bl,bh⟩:=rfl;rw[e];clear e;go_enter Tryz.func154,Tryz.ntmps154;go_wp2_with (go_at_call 153;refine(yP _).mono ?_;(refine arZ ?_;intro w1 hc1 hf1 hz1 HW1));exact bodyPost_ret (v:=.agg #[aU (bl),aU (bh)]) ak8 rfl ⟨rfl,gI⟩
theorem aFb(al ah bl bh:Int) (w:World) :
  Calls Tryz.prog 154 #[aU 2,.agg #[aU al,aU ah],.agg #[aU bl,aU bh]] w fun e w'=>e=.returned (.agg #[aU ((dV 2 ⟨al,ah⟩ ⟨bl,bh⟩).lo),aU ((dV 2 ⟨al,ah⟩ ⟨bl,bh⟩).hi)])∧Below w.heap.size w w':=by
 refine fU ?_;intro HW0;generalize h1:Yc al bl=s1;generalize h2:Yc ah bh=s2;have e:dV 2 ⟨al,ah⟩ ⟨bl,bh⟩=EF s1.1 (s1.2||decide (bl=0)) s2.1 (s2.2||decide (bh=0)):=by rw[←h1,←h2];rfl
 rw[e];clear e;have H1:=bW h1;have H2:=bW h2;clear h1 h2;obtain⟨v1,b1⟩:=s1;obtain⟨v2,b2⟩:=s2;cases b1<;>cases b2
 ·go_enter Tryz.func154,Tryz.ntmps154;go_wp2_with fail;refine(sum_any _ _ _).mono ?_;rw[H1.out];rintro e w' ⟨rfl,rfl⟩;go_wp2_with fail;refine(sum_any _ _ _).mono ?_;rw[H2.out];rintro e w' ⟨rfl,rfl⟩;go_wp2_with fail;refine(adu _ _ _ _ _).mono ?_;refine Gy ?_;intro w1 hc1 hf1 hz1 HW1 z10 z11 z12;go_wp2_with fail;exact bodyPost_ret (v:=.agg #[aU ((EF v1 (bl==0) v2 (bh==0)).lo),aU ((EF v1 (bl==0) v2 (bh==0)).hi)]) Ot rfl ⟨by first|(simp;done)|(simp;exact⟨rfl,rfl⟩),jZ⟩
 ·go_enter Tryz.func154,Tryz.ntmps154;go_wp2_with fail;refine(sum_any _ _ _).mono ?_;rw[H1.out];rintro e w' ⟨rfl,rfl⟩;go_wp2_with fail;refine(sum_any _ _ _).mono ?_;rw[H2.out];rintro e w' ⟨rfl,rfl⟩;go_wp2_with fail;refine(adu _ _ _ _ _).mono ?_;refine Gy ?_;intro w1 hc1 hf1 hz1 HW1 z10 z11 z12;go_wp2_with fail;exact bodyPost_ret (v:=.agg #[aU ((EF v1 (bl==0) v2 (true)).lo),aU ((EF v1 (bl==0) v2 (true)).hi)]) Ot rfl ⟨by first|(simp;done)|(simp;exact⟨rfl,rfl⟩),jZ⟩
 ·go_enter Tryz.func154,Tryz.ntmps154;go_wp2_with fail;refine(sum_any _ _ _).mono ?_;rw[H1.out];rintro e w' ⟨rfl,rfl⟩;go_wp2_with fail;refine(sum_any _ _ _).mono ?_;rw[H2.out];rintro e w' ⟨rfl,rfl⟩;go_wp2_with fail;refine(adu _ _ _ _ _).mono ?_;refine Gy ?_;intro w1 hc1 hf1 hz1 HW1 z10 z11 z12;go_wp2_with fail;exact bodyPost_ret (v:=.agg #[aU ((EF v1 (true) v2 (bh==0)).lo),aU ((EF v1 (true) v2 (bh==0)).hi)]) Ot rfl ⟨by first|(simp;done)|(simp;exact⟨rfl,rfl⟩),jZ⟩
 ·go_enter Tryz.func154,Tryz.ntmps154;go_wp2_with fail;refine(sum_any _ _ _).mono ?_;rw[H1.out];rintro e w' ⟨rfl,rfl⟩;go_wp2_with fail;refine(sum_any _ _ _).mono ?_;exact awn
theorem aFc(al ah bl bh:Int) (w:World) :
  Calls Tryz.prog 154 #[aU 3,.agg #[aU al,aU ah],.agg #[aU bl,aU bh]] w fun e w'=>e=.returned (.agg #[aU ((dV 3 ⟨al,ah⟩ ⟨bl,bh⟩).lo),aU ((dV 3 ⟨al,ah⟩ ⟨bl,bh⟩).hi)])∧Below w.heap.size w w':=by
 refine fU ?_;intro HW0;generalize h1:Yd al bh=s1;generalize h2:Yd ah bl=s2;have e:dV 3 ⟨al,ah⟩ ⟨bl,bh⟩=EF s1.1 (s1.2||decide (bh=0)) s2.1 (s2.2||decide (bl=0)):=by rw[←h1,←h2];rfl
 rw[e];clear e;have H1:=bW h1;have H2:=bW h2;clear h1 h2;obtain⟨v1,b1⟩:=s1;obtain⟨v2,b2⟩:=s2;cases b1<;>cases b2
 ·go_enter Tryz.func154,Tryz.ntmps154;go_wp2_with fail;refine(acz _ _ _).mono ?_;rw[H1.out];rintro e w' ⟨rfl,rfl⟩;go_wp2_with fail;refine(acz _ _ _).mono ?_;rw[H2.out];rintro e w' ⟨rfl,rfl⟩;go_wp2_with fail;refine(adu _ _ _ _ _).mono ?_;refine Gy ?_;intro w1 hc1 hf1 hz1 HW1 z10 z11 z12;go_wp2_with fail;exact bodyPost_ret (v:=.agg #[aU ((EF v1 (bh==0) v2 (bl==0)).lo),aU ((EF v1 (bh==0) v2 (bl==0)).hi)]) Ot rfl ⟨by first|(simp;done)|(simp;exact⟨rfl,rfl⟩),jZ⟩
 ·go_enter Tryz.func154,Tryz.ntmps154;go_wp2_with fail;refine(acz _ _ _).mono ?_;rw[H1.out];rintro e w' ⟨rfl,rfl⟩;go_wp2_with fail;refine(acz _ _ _).mono ?_;rw[H2.out];rintro e w' ⟨rfl,rfl⟩;go_wp2_with fail;refine(adu _ _ _ _ _).mono ?_;refine Gy ?_;intro w1 hc1 hf1 hz1 HW1 z10 z11 z12;go_wp2_with fail;exact bodyPost_ret (v:=.agg #[aU ((EF v1 (bh==0) v2 (true)).lo),aU ((EF v1 (bh==0) v2 (true)).hi)]) Ot rfl ⟨by first|(simp;done)|(simp;exact⟨rfl,rfl⟩),jZ⟩
 ·go_enter Tryz.func154,Tryz.ntmps154;go_wp2_with fail;refine(acz _ _ _).mono ?_;rw[H1.out];rintro e w' ⟨rfl,rfl⟩;go_wp2_with fail;refine(acz _ _ _).mono ?_;rw[H2.out];rintro e w' ⟨rfl,rfl⟩;go_wp2_with fail;refine(adu _ _ _ _ _).mono ?_;refine Gy ?_;intro w1 hc1 hf1 hz1 HW1 z10 z11 z12;go_wp2_with fail;exact bodyPost_ret (v:=.agg #[aU ((EF v1 (true) v2 (bl==0)).lo),aU ((EF v1 (true) v2 (bl==0)).hi)]) Ot rfl ⟨by first|(simp;done)|(simp;exact⟨rfl,rfl⟩),jZ⟩
 ·go_enter Tryz.func154,Tryz.ntmps154;go_wp2_with fail;refine(acz _ _ _).mono ?_;rw[H1.out];rintro e w' ⟨rfl,rfl⟩;go_wp2_with fail;refine(acz _ _ _).mono ?_;exact awn
theorem aFd(al ah bl bh:Int) (w:World) :
  Calls Tryz.prog 154 #[aU 4,.agg #[aU al,aU ah],.agg #[aU bl,aU bh]] w fun e w'=>e=.returned (.agg #[aU ((dV 4 ⟨al,ah⟩ ⟨bl,bh⟩).lo),aU ((dV 4 ⟨al,ah⟩ ⟨bl,bh⟩).hi)])∧Below w.heap.size w w':=by
 refine fU ?_;intro HW0;have e:dV 4 ⟨al,ah⟩ ⟨bl,bh⟩=Oq ⟨al,ah⟩ ⟨bl,bh⟩:=rfl;rw[e];clear e;go_enter Tryz.func154,Tryz.ntmps154;go_wp2_with fail;refine(times_any _ _ _ _ _).mono ?_;refine Gy ?_;intro w1 hc1 hf1 hz1 HW1 z10 z11 z12;go_wp2_with fail;exact bodyPost_ret (v:=.agg #[aU ((Oq ⟨al,ah⟩ ⟨bl,bh⟩).lo),aU ((Oq ⟨al,ah⟩ ⟨bl,bh⟩).hi)]) Ot rfl ⟨rfl,jZ⟩
theorem aFe(al ah bl bh:Int)(ia:In64 al)(eP:In64 ah)(ib:In64 bl)(ib2:In64 bh)(ha:al≤ah)(hb:bl≤bh)(w:World) :
  Calls Tryz.prog 154 #[aU 5,.agg #[aU al,aU ah],.agg #[aU bl,aU bh]] w fun e w'=>e=.returned (.agg #[aU ((dV 5 ⟨al,ah⟩ ⟨bl,bh⟩).lo),aU ((dV 5 ⟨al,ah⟩ ⟨bl,bh⟩).hi)])∧Below w.heap.size w w':=by
 refine fU ?_;intro HW0;by_cases h1:al<0
 ·have e:dV 5 ⟨al,ah⟩ ⟨bl,bh⟩=fP:=by show bdiv 5 _ _=_;unfold bdiv;rw[dB (.inl h1)]
  rw[e];clear e;exact adv
 ·by_cases h2:bl<0
  ·have e:dV 5 ⟨al,ah⟩ ⟨bl,bh⟩=fP:=by show bdiv 5 _ _=_;unfold bdiv;rw[dB (.inr h2)]
   rw[e];clear e;exact adv
  ·by_cases h3:bl=0
   ·have e:dV 5 ⟨al,ah⟩ ⟨bl,bh⟩=⟨0,ah⟩:=by show bdiv 5 _ _=_;unfold bdiv;rw[dw eU,dB h3]
    exact awo
   ·have e:dV 5 ⟨al,ah⟩ ⟨bl,bh⟩=⟨al/bh,ah/bl⟩:=by show bdiv 5 _ _=_;unfold bdiv;rw[dw eU,dw h3,dB rfl]
    rw[e];clear e;have t3:(bl==0)=false:=YO;have a0:0≤al:=bQ;have a1:0≤ah:=bQ;have a2:1≤bl:=bQ;have a3:1≤bh:=bQ;have a4:al≤9223372036854775807:=ia.2;have a5:ah≤9223372036854775807:=eP.2;have a6:¬bl=0:=bQ;have a7:¬bh=0:=bQ;clear h1 h2 h3 ha hb ia eP ib ib2;go_enter Tryz.func154,Tryz.ntmps154;go_wp2_with fail;refine ak9 11 dF dF ?_;refine aoy ?_;repeat (still_step;try go_bits)
    refine wpStill_nil ?_;go_wp2_with fail;exact bodyPost_ret (v:=.agg #[aU (al/bh),aU (ah/bl)]) ak8 rfl ⟨rfl,gI⟩
theorem aFf(al ah bl bh:Int)(ia:In64 al)(eP:In64 ah)(ib:In64 bl)(ib2:In64 bh)(ha:al≤ah)(hb:bl≤bh)(w:World) :
  Calls Tryz.prog 154 #[aU 6,.agg #[aU al,aU ah],.agg #[aU bl,aU bh]] w fun e w'=>e=.returned (.agg #[aU ((dV 6 ⟨al,ah⟩ ⟨bl,bh⟩).lo),aU ((dV 6 ⟨al,ah⟩ ⟨bl,bh⟩).hi)])∧Below w.heap.size w w':=by
 refine fU ?_;intro HW0;by_cases h1:al<0
 ·have e:dV 6 ⟨al,ah⟩ ⟨bl,bh⟩=fP:=by show bdiv 6 _ _=_;unfold bdiv;rw[dB (.inl h1)]
  rw[e];clear e;exact adv
 ·by_cases h2:bl<0
  ·have e:dV 6 ⟨al,ah⟩ ⟨bl,bh⟩=fP:=by show bdiv 6 _ _=_;unfold bdiv;rw[dB (.inr h2)]
   rw[e];clear e;exact adv
  ·by_cases h3:bl=0
   ·have e:dV 6 ⟨al,ah⟩ ⟨bl,bh⟩=⟨0,ah⟩:=by show bdiv 6 _ _=_;unfold bdiv;rw[dw eU,dB h3]
    exact awo
   ·have e:dV 6 ⟨al,ah⟩ ⟨bl,bh⟩=⟨0,min ah (bh-1)⟩:=by show bdiv 6 _ _=_;unfold bdiv;rw[dw eU,dw h3,dw dS]
    rw[e];clear e;have t3:(bl==0)=false:=YO;have a3:-9223372036854775808≤bh-1:=bQ;have a5:bh-1≤9223372036854775807:=by have:=ib2.2;omega
    clear h3 ha hb ia eP ib ib2;go_enter Tryz.func154,Tryz.ntmps154;go_wp2_with fail;exact bodyPost_ret (v:=.agg #[aU (0),aU (min ah (bh-1))]) ak8 rfl ⟨rfl,gI⟩
theorem aFg(al ah bl bh:Int)(eP:In64 ah)(ib2:In64 bh)(w:World) :
  Calls Tryz.prog 154 #[aU 7,.agg #[aU al,aU ah],.agg #[aU bl,aU bh]] w fun e w'=>e=.returned (.agg #[aU ((dV 7 ⟨al,ah⟩ ⟨bl,bh⟩).lo),aU ((dV 7 ⟨al,ah⟩ ⟨bl,bh⟩).hi)])∧Below w.heap.size w w':=by
 refine fU ?_;intro HW0;have IA:=bW eP;have IB:=bW ib2;clear eP ib2;have e:dV 7 ⟨al,ah⟩ ⟨bl,bh⟩=sQ 7 ⟨al,ah⟩ ⟨bl,bh⟩:=rfl;rw[e];clear e;go_enter Tryz.func154,Tryz.ntmps154;go_wp2_with fail;refine(ar0 _ _ _ _ _ bQ IA.out IB.out _).mono ?_;refine Gy ?_;intro w1 hc1 hf1 hz1 HW1 z10 z11 z12;go_wp2_with fail;exact bodyPost_ret (v:=.agg #[aU ((sQ 7 ⟨al,ah⟩ ⟨bl,bh⟩).lo),aU ((sQ 7 ⟨al,ah⟩ ⟨bl,bh⟩).hi)]) Ot rfl ⟨rfl,jZ⟩
theorem aFh(al ah bl bh:Int)(eP:In64 ah)(ib2:In64 bh)(w:World) :
  Calls Tryz.prog 154 #[aU 8,.agg #[aU al,aU ah],.agg #[aU bl,aU bh]] w fun e w'=>e=.returned (.agg #[aU ((dV 8 ⟨al,ah⟩ ⟨bl,bh⟩).lo),aU ((dV 8 ⟨al,ah⟩ ⟨bl,bh⟩).hi)])∧Below w.heap.size w w':=by
 refine fU ?_;intro HW0;have IA:=bW eP;have IB:=bW ib2;clear eP ib2;have e:dV 8 ⟨al,ah⟩ ⟨bl,bh⟩=sQ 8 ⟨al,ah⟩ ⟨bl,bh⟩:=rfl;rw[e];clear e;go_enter Tryz.func154,Tryz.ntmps154;go_wp2_with fail;refine(ar0 _ _ _ _ _ bQ IA.out IB.out _).mono ?_;refine Gy ?_;intro w1 hc1 hf1 hz1 HW1 z10 z11 z12;go_wp2_with fail;exact bodyPost_ret (v:=.agg #[aU ((sQ 8 ⟨al,ah⟩ ⟨bl,bh⟩).lo),aU ((sQ 8 ⟨al,ah⟩ ⟨bl,bh⟩).hi)]) Ot rfl ⟨rfl,jZ⟩
theorem aFi(al ah bl bh:Int)(eP:In64 ah)(ib2:In64 bh)(w:World) :
  Calls Tryz.prog 154 #[aU 9,.agg #[aU al,aU ah],.agg #[aU bl,aU bh]] w fun e w'=>e=.returned (.agg #[aU ((dV 9 ⟨al,ah⟩ ⟨bl,bh⟩).lo),aU ((dV 9 ⟨al,ah⟩ ⟨bl,bh⟩).hi)])∧Below w.heap.size w w':=by
 refine fU ?_;intro HW0;have IA:=bW eP;have IB:=bW ib2;clear eP ib2;have e:dV 9 ⟨al,ah⟩ ⟨bl,bh⟩=sQ 9 ⟨al,ah⟩ ⟨bl,bh⟩:=rfl;rw[e];clear e;go_enter Tryz.func154,Tryz.ntmps154;go_wp2_with fail;refine(ar0 _ _ _ _ _ bQ IA.out IB.out _).mono ?_;refine Gy ?_;intro w1 hc1 hf1 hz1 HW1 z10 z11 z12;go_wp2_with fail;exact bodyPost_ret (v:=.agg #[aU ((sQ 9 ⟨al,ah⟩ ⟨bl,bh⟩).lo),aU ((sQ 9 ⟨al,ah⟩ ⟨bl,bh⟩).hi)]) Ot rfl ⟨rfl,jZ⟩
theorem aFj(al ah bl bh:Int) (w:World) :
  Calls Tryz.prog 154 #[aU 10,.agg #[aU al,aU ah],.agg #[aU bl,aU bh]] w fun e w'=>e=.returned (.agg #[aU ((dV 10 ⟨al,ah⟩ ⟨bl,bh⟩).lo),aU ((dV 10 ⟨al,ah⟩ ⟨bl,bh⟩).hi)])∧Below w.heap.size w w':=by
 refine fU ?_;intro HW0;by_cases h:bl=bh
 ·subst h;have e:dV 10 ⟨al,ah⟩ ⟨bl,bl⟩=KY ⟨al,ah⟩ (sh bl):=by unfold dV;simp
  rw[e];clear e;refine aoz ?_;intro ke k0 k1;go_enter Tryz.func154,Tryz.ntmps154;go_wp2_with fail;refine(aFk _ _ _ (adw bl) _).mono ?_;refine Gy ?_;intro w1 hc1 hf1 hz1 HW1 z10 z11 z12;go_wp2_with fail;exact bodyPost_ret (v:=.agg #[aU ((KY ⟨al,ah⟩ (sh bl)).lo),aU ((KY ⟨al,ah⟩ (sh bl)).hi)]) Ot rfl ⟨rfl,jZ⟩
 ·have e:dV 10 ⟨al,ah⟩ ⟨bl,bh⟩=fP:=by unfold dV;simp[h]
  rw[e];clear e;have t:(bl !=bh)=true:=by simp[h]
  clear h;exact adv
theorem aFl(al ah bl bh:Int) (w:World) :
  Calls Tryz.prog 154 #[aU 11,.agg #[aU al,aU ah],.agg #[aU bl,aU bh]] w fun e w'=>e=.returned (.agg #[aU ((dV 11 ⟨al,ah⟩ ⟨bl,bh⟩).lo),aU ((dV 11 ⟨al,ah⟩ ⟨bl,bh⟩).hi)])∧Below w.heap.size w w':=by
 refine fU ?_;intro HW0;have e:dV 11 ⟨al,ah⟩ ⟨bl,bh⟩=Fp ⟨al,ah⟩ ⟨bl,bh⟩:=rfl;rw[e];clear e;go_enter Tryz.func154,Tryz.ntmps154;go_wp2_with fail;refine(aFm _ _ _ _ _).mono ?_;refine Gy ?_;intro w1 hc1 hf1 hz1 HW1 z10 z11 z12;go_wp2_with fail;exact bodyPost_ret (v:=.agg #[aU ((Fp ⟨al,ah⟩ ⟨bl,bh⟩).lo),aU ((Fp ⟨al,ah⟩ ⟨bl,bh⟩).hi)]) Ot rfl ⟨rfl,jZ⟩
theorem aFo(al ah bl bh:Int) (w:World) :
  Calls Tryz.prog 154 #[aU 12,.agg #[aU al,aU ah],.agg #[aU bl,aU bh]] w fun e w'=>e=.returned (.agg #[aU ((dV 12 ⟨al,ah⟩ ⟨bl,bh⟩).lo),aU ((dV 12 ⟨al,ah⟩ ⟨bl,bh⟩).hi)])∧Below w.heap.size w w':=by
 refine fU ?_;intro HW0;have e:dV 12 ⟨al,ah⟩ ⟨bl,bh⟩=Ir ⟨al,ah⟩ ⟨bl,bh⟩:=rfl;rw[e];clear e;go_enter Tryz.func154,Tryz.ntmps154;go_wp2_with fail;refine(aFp _ _ _ _ _).mono ?_;refine Gy ?_;intro w1 hc1 hf1 hz1 HW1 z10 z11 z12;go_wp2_with fail;exact bodyPost_ret (v:=.agg #[aU ((Ir ⟨al,ah⟩ ⟨bl,bh⟩).lo),aU ((Ir ⟨al,ah⟩ ⟨bl,bh⟩).hi)]) Ot rfl ⟨rfl,jZ⟩
theorem aFq(al ah bl bh:Int)(ia:In64 al)(eP:In64 ah)(ha:al≤ah)(w:World) :
  Calls Tryz.prog 154 #[aU 13,.agg #[aU al,aU ah],.agg #[aU bl,aU bh]] w fun e w'=>e=.returned (.agg #[aU ((dV 13 ⟨al,ah⟩ ⟨bl,bh⟩).lo),aU ((dV 13 ⟨al,ah⟩ ⟨bl,bh⟩).hi)])∧Below w.heap.size w w':=by
 refine fU ?_;intro HW0;by_cases h:al=-9223372036854775808
 ·have e:dV 13 ⟨al,ah⟩ ⟨bl,bh⟩=fP:=by unfold dV;simp[h]
  rw[e];clear e;have t:(al==-9223372036854775808)=true:=by simp[h]
  clear h ia eP ha;exact adv
 ·have e:dV 13 ⟨al,ah⟩ ⟨bl,bh⟩=⟨-ah,-al⟩:=by unfold dV;simp[h]
  rw[e];clear e;have t:(al==-9223372036854775808)=false:=by simp[h]
  have a1:-9223372036854775807≤al:=by have:=ia.1;omega
  have a2:al≤9223372036854775807:=ia.2;have a3:ah≤9223372036854775807:=eP.2;have a4:-9223372036854775807≤ah:=bQ;clear h ia eP ha;go_enter Tryz.func154,Tryz.ntmps154;go_wp2_with (go_at_call 153;refine(yP _).mono ?_;(refine arZ ?_;intro w1 hc1 hf1 hz1 HW1));exact bodyPost_ret (v:=.agg #[aU (-ah),aU (-al)]) ak8 rfl ⟨rfl,gI⟩
theorem aFr(c al ah bl bh:Int)(hc:c<1∨13<c)(w:World) :
  Calls Tryz.prog 154 #[aU c,.agg #[aU al,aU ah],.agg #[aU bl,aU bh]] w fun e w'=>e=.returned (.agg #[aU ((dV c ⟨al,ah⟩ ⟨bl,bh⟩).lo),aU ((dV c ⟨al,ah⟩ ⟨bl,bh⟩).hi)])∧Below w.heap.size w w':=by
 refine fU ?_;intro HW0;have e:dV c ⟨al,ah⟩ ⟨bl,bh⟩=fP:=by
  unfold dV;repeat rw[dw bQ]
 rw[e];clear e;have t1:(c==1)=false:=eU;have t2:(c==2)=false:=eU;have t3:(c==3)=false:=eU;have t4:(c==4)=false:=eU;have t5:(c==5)=false:=eU;have t6:(c==6)=false:=eU;have t7:(c==7)=false:=eU;have t8:(c==8)=false:=eU;have t9:(c==9)=false:=eU;have t10:(c==10)=false:=eU;have t11:(c==11)=false:=eU;have t12:(c==12)=false:=eU;have t13:(c==13)=false:=eU;clear hc;exact adv
theorem ala(c al ah bl bh:Int)(ia:In64 al)(eP:In64 ah)(ib:In64 bl)(ib2:In64 bh)(ha:al≤ah)(hb:bl≤bh)(w:World) :
  Calls Tryz.prog 154 #[aU c,.agg #[aU al,aU ah],.agg #[aU bl,aU bh]] w fun e w'=>e=.returned (.agg #[aU ((dV c ⟨al,ah⟩ ⟨bl,bh⟩).lo),aU ((dV c ⟨al,ah⟩ ⟨bl,bh⟩).hi)])∧Below w.heap.size w w':=by
 by_cases hc:c<1∨13<c
 ·exact aFr c al ah bl bh hc w
 have hc':c=1∨c=2∨c=3∨c=4∨c=5∨c=6∨c=7∨c=8∨c=9∨c=10∨c=11∨c=12∨c=13:=bQ;rcases hc' with rfl|rfl|rfl|rfl|rfl|rfl|rfl|rfl|rfl|rfl|rfl|rfl|rfl
 ·exact aFa al ah bl bh w
 ·exact aFb al ah bl bh w
 ·exact aFc al ah bl bh w
 ·exact aFd al ah bl bh w
 ·exact aFe al ah bl bh ia eP ib ib2 ha hb w
 ·exact aFf al ah bl bh ia eP ib ib2 ha hb w
 ·exact aFg al ah bl bh eP ib2 w
 ·exact aFh al ah bl bh eP ib2 w
 ·exact aFi al ah bl bh eP ib2 w
 ·exact aFj al ah bl bh w
 ·exact aFl al ah bl bh w
 ·exact aFo al ah bl bh w
 ·exact aFq al ah bl bh ia eP ha w
def KZ(a b c d:Int):Nat→Int|0=>a|1=>a|2=>min a b|3=>min a (min b c)|_=>min a (min b (min c d))
def Lc(a b c d:Int):Nat→Int|0=>a|1=>a|2=>max a b|3=>max a (max b c)|_=>max a (max b (max c d))
theorem VJ(n:Int)(w:World) :
  Calls Tryz.prog 73 #[aU n] w fun e w'=>e=.returned (.agg #[aU n,aU n])∧w.alloc (.cells #[aU n,aU n] 127)=w':=by
 go_enter Tryz.func73,Tryz.ntmps73;go_wp2_with fail;exact bodyPost_ret (v:=.agg #[aU n,aU n]) (by simp[results,Tryz.results73,go_sem]) rfl ⟨rfl,rfl⟩
end Go.Proofs.YtglilddlhibogaaGreatDoor.W
