/- A part of the proof; each theorem states its conditions. -/
import Derived.Test.YtglilddlhibogaaGreatDoorPureBound
import Derived.Test.YtglilddlhibogaaGreatDoorWalkOp
import Derived.Test.YtglilddlhibogaaGreatDoorZZ3
import Derived.Test.YtglilddlhibogaaGreatDoorZZ4
import Derived.BigQuiet
import Derived.StillTailTactics
set_option linter.unusedSimpArgs false
set_option linter.unusedVariables false
set_option maxRecDepth 100000
set_option maxHeartbeats 100000000
namespace Go.Proofs.YtglilddlhibogaaGreatDoor.W
open Go.RowKit Go.Proofs.YtglilddlhibogaaGreatDoor.P
theorem ak9{P:Program}{id:Nat}{Q:Exit→Act→World→Prop}{a:Act}{w:World}{l:List Oper}(n:Nat)(hm:P.follows .mixedOrders=true)(hB:Region.lexTailB .any l.toArray n=true)
  (h:wpStill P l.toArray w.drew (fun a'=>wpList P l.toArray Q (l.drop n) a' w.drew) (l.take n) a):(Code.region id l.toArray true).wp P Q a w :=
 wp_region_still_tail n hm hB h
theorem Below.drewN'{B:Nat}{a w:World}(h:Below B a w)(n:Nat):Below B a (w.drewN n):=⟨h.os,h.tape,h.output,h.size,h.block⟩
theorem bD{B:Nat}{a w:World}(h:Below B a w):Below B a w.drew:=h.drew
theorem bN{B:Nat}{a w:World}{n:Nat}(h:Below B a w):Below B a (w.drewN n):=Below.drewN' h n
theorem bA{B:Nat}{a w:World}{o:Obj}(h:Below B a w)(hB:B≤w.heap.size):Below B a (w.alloc o):=h.alloc hB o
theorem bS{B:Nat}{a w:World}{p:Addr}{u:Value}(h:Below B a w)(hp:B≤p.block):Below B a (w.setCell p u):=h.setCell hp u
theorem jd{W w1:World}(hb:Below W.heap.size W w1):(∀ b o,b<W.heap.size→w1.cell? ⟨b,o,none⟩=W.cell? ⟨b,o,none⟩)∧(∀ b o,b<W.heap.size→w1.frozen? ⟨b,o,none⟩=W.frozen? ⟨b,o,none⟩) :=
 ⟨fun b o h=>hb.cell (p:=⟨b,o,none⟩) h,fun b o h=>hb.frozen (p:=⟨b,o,none⟩) h⟩
theorem acW(n:Int)(w:World) :
  Calls Tryz.prog 76 #[aU n] w fun e w'=>e=.returned (.agg #[aU n,aU n])∧Below w.heap.size w w':=by
 go_enter Tryz.func76,Tryz.ntmps76;go_wp2_with fail;exact bodyPost_ret (v:=.agg #[aU n,aU n]) (by simp[results,Tryz.results76,go_sem]) rfl ⟨rfl,uT⟩
theorem yP(w:World) :
  Calls Tryz.prog 153 #[] w fun e w'=>e=.returned (.agg #[aU (-9223372036854775808),aU 9223372036854775807])∧Below w.heap.size w w':=by
 go_enter Tryz.func153,Tryz.ntmps153;go_wp2_with fail;exact bodyPost_ret (v:=.agg #[aU (-9223372036854775808),aU 9223372036854775807]) (by simp[results,Tryz.results153,go_sem]) rfl ⟨rfl,uT⟩
theorem ajj(al ah bl bh:Int)(w:World) :
  Calls Tryz.prog 109 #[.agg #[aU al,aU ah],.agg #[aU bl,aU bh]] w fun e w'=>e=.returned (.agg #[aU (min al bl),aU (max ah bh)])∧Below w.heap.size w w':=by
 go_enter Tryz.func109,Tryz.ntmps109;go_wp2_with fail;exact bodyPost_ret (v:=.agg #[aU (min al bl),aU (max ah bh)]) (by simp[results,Tryz.results109,go_sem]) rfl ⟨rfl,uT⟩
theorem amR(al ah bl bh:Int)(w:World) :
  Calls Tryz.prog 181 #[.agg #[aU al,aU ah],.agg #[aU bl,aU bh]] w fun e w' =>
   e=.returned (.tuple #[.agg #[aU (ji ⟨al,ah⟩ ⟨bl,bh⟩).1.lo,aU (ji ⟨al,ah⟩ ⟨bl,bh⟩).1.hi],.bool (ji ⟨al,ah⟩ ⟨bl,bh⟩).2])∧Below w.heap.size w w':=by
 by_cases h:max al bl>min ah bh
 ·have hm:ji ⟨al,ah⟩ ⟨bl,bh⟩=(⟨0,0⟩,false):=by unfold ji kK;rw[dB h]
  rw[hm];clear hm;go_enter Tryz.func181,Tryz.ntmps181;go_wp2_with fail;exact bodyPost_ret (v:=.tuple #[.agg #[aU 0,aU 0],.bool false]) (by simp[results,Tryz.results181,go_sem]) rfl ⟨rfl,uT⟩
 ·have hm:ji ⟨al,ah⟩ ⟨bl,bh⟩=(⟨max al bl,min ah bh⟩,true):=by unfold ji;rw[dw h]
  rw[hm];clear hm;go_enter Tryz.func181,Tryz.ntmps181;go_wp2_with fail;exact bodyPost_ret (v:=.tuple #[.agg #[aU (max al bl),aU (min ah bh)],.bool true]) (by simp[results,Tryz.results181,go_sem]) rfl ⟨rfl,uT⟩
theorem sum_any(a b:Int)(w:World) :
  Calls Tryz.prog 186 #[aU a,aU b] w fun e w'=>e=.returned (.tuple #[aU (Yc a b).1,.bool (Yc a b).2])∧w=w':=by
 go_enter Tryz.func186,Tryz.ntmps186;exact adn
theorem acz(a b:Int)(w:World) :
  Calls Tryz.prog 188 #[aU a,aU b] w fun e w'=>e=.returned (.tuple #[aU (Yd a b).1,.bool (Yd a b).2])∧w=w':=by
 go_enter Tryz.func188,Tryz.ntmps188;exact adn
theorem adu(l h:Int)(a b:Bool)(w:World) :
  Calls Tryz.prog 187 #[aU l,.bool a,aU h,.bool b] w fun e w'=>e=.returned (.agg #[aU (EF l a h b).lo,aU (EF l a h b).hi])∧Below w.heap.size w w':=by
 cases a<;>cases b
 all_goals
  go_enter Tryz.func187,Tryz.ntmps187;go_wp2_with ((go_at_call 153;refine(yP _).mono ?_;rintro e w1 ⟨rfl,hb⟩;(obtain⟨hc,hf⟩:=jd hb;have hz:=hb.size;simp at hz;have HB:=bW hb;clear hb)));first
  |exact bodyPost_ret (v:=.agg #[aU l,aU h]) (by simp[results,Tryz.results187,go_sem]) rfl ⟨rfl,uT⟩
  |exact bodyPost_ret (v:=.agg #[aU (-9223372036854775808),aU 9223372036854775807]) (by simp[results,Tryz.results187,go_sem,hc]) rfl ⟨rfl,uT⟩
theorem auD(x:Int):bits .and .i64 x 63=(sh x:Int):=by
 rw[amw];have h2:(u x).toNat&&&(u 63).toNat=(u x).toNat%64:=by
  have:(u 63).toNat=63:=dS;rw[this];exact Nat.and_two_pow_sub_one_eq_mod (u x).toNat 6
 rw[h2,EH aaq];unfold sh;rw[←alb x];have:=VQ x;omega
theorem aFk(al ah:Int)(k:Nat)(hk:k<64)(w:World) :
  Calls Tryz.prog 191 #[.agg #[aU al,aU ah],.int .u64 k] w fun e w'=>e=.returned (.agg #[aU (KY ⟨al,ah⟩ k).lo,aU (KY ⟨al,ah⟩ k).hi])∧Below w.heap.size w w':=by
 have k0:(0:Int)≤(k:Int):=bQ;have k1:(k:Int)≤64:=bQ;by_cases h1:wrap64 (al*2^k)/2^k=al
 ·by_cases h2:wrap64 (ah*2^k)/2^k=ah
  ·have e:KY ⟨al,ah⟩ k=⟨wrap64 (al*2^k),wrap64 (ah*2^k)⟩:=by unfold KY;rw[dw];simp[h1,h2]
   rw[e];have t1:(wrap64 (al*2^k)/2^k !=al)=false:=AO;have t2:(wrap64 (ah*2^k)/2^k !=ah)=false:=Yy;clear e h1 h2;go_enter Tryz.func191,Tryz.ntmps191;go_wp2_with ((go_at_call 153;refine(yP _).mono ?_;rintro e w1 ⟨rfl,hb⟩;(obtain⟨hc,hf⟩:=jd hb;have hz:=hb.size;simp at hz;have HB:=bW hb;clear hb)));go_quiet (fail)
   go_wp2_with ((go_at_call 153;refine(yP _).mono ?_;rintro e w1 ⟨rfl,hb⟩;(obtain⟨hc,hf⟩:=jd hb;have hz:=hb.size;simp at hz;have HB:=bW hb;clear hb)));exact bodyPost_ret (v:=.agg #[aU (wrap64 (al*2^k)),aU (wrap64 (ah*2^k))]) (by simp[results,Tryz.results191,go_sem]) rfl ⟨rfl,uT⟩
  ·have e:KY ⟨al,ah⟩ k=fP:=by unfold KY;rw[dB];simp[h2]
   rw[e];have t1:(wrap64 (al*2^k)/2^k !=al)=false:=AO;have t2:(wrap64 (ah*2^k)/2^k !=ah)=true:=Yy;clear e h1 h2;exact aCI
 ·have e:KY ⟨al,ah⟩ k=fP:=by unfold KY;rw[dB];simp[h1]
  rw[e];have t1:(wrap64 (al*2^k)/2^k !=al)=true:=AO;clear e h1;exact aCI
theorem aFm(al ah bl bh:Int)(w:World) :
  Calls Tryz.prog 192 #[.agg #[aU al,aU ah],.agg #[aU bl,aU bh]] w fun e w'=>e=.returned (.agg #[aU (Fp ⟨al,ah⟩ ⟨bl,bh⟩).lo,aU (Fp ⟨al,ah⟩ ⟨bl,bh⟩).hi])∧Below w.heap.size w w':=by
 refine aoz ?_;intro ke k0 k1;have k2:(sh bl:Int)≤64:=bQ;by_cases hb:bl=bh
 ·subst hb;by_cases hk:sh bl=0
  ·have e:Fp ⟨al,ah⟩ ⟨bl,bl⟩=⟨al,ah⟩:=by unfold Fp;simp[hk]
   rw[e];have hk1:((sh bl:Int)==0)=true:=by simp[hk]
   clear e hk;go_enter Tryz.func192,Tryz.ntmps192;go_wp2_with ((go_at_call 153;refine(yP _).mono ?_;rintro e w1 ⟨rfl,hb⟩;(obtain⟨hc,hf⟩:=jd hb;have hz:=hb.size;simp at hz;have HB:=bW hb;clear hb)));exact bodyPost_ret (v:=.agg #[aU al,aU ah]) aqc rfl ⟨rfl,uT⟩
  ·have hk1:((sh bl:Int)==0)=false:=by simp[hk]
   have k3:1≤(sh bl:Int):=bQ;by_cases h0:0≤al
   ·have e:Fp ⟨al,ah⟩ ⟨bl,bl⟩=⟨al/2^sh bl,ah/2^sh bl⟩:=by unfold Fp;simp[hk,h0]
    rw[e];clear e hk;go_enter Tryz.func192,Tryz.ntmps192;go_wp2_with ((go_at_call 153;refine(yP _).mono ?_;rintro e w1 ⟨rfl,hb⟩;(obtain⟨hc,hf⟩:=jd hb;have hz:=hb.size;simp at hz;have HB:=bW hb;clear hb)));exact bodyPost_ret (v:=.agg #[aU (al/2^sh bl),aU (ah/2^sh bl)]) aqc rfl ⟨rfl,uT⟩
   ·have e:Fp ⟨al,ah⟩ ⟨bl,bl⟩=⟨0,9223372036854775807/2^(sh bl-1)⟩:=by unfold Fp;simp[hk,h0]
    rw[e];clear e hk;go_enter Tryz.func192,Tryz.ntmps192;go_wp2_with ((go_at_call 153;refine(yP _).mono ?_;rintro e w1 ⟨rfl,hb⟩;(obtain⟨hc,hf⟩:=jd hb;have hz:=hb.size;simp at hz;have HB:=bW hb;clear hb)));exact bodyPost_ret (v:=.agg #[aU 0,aU (9223372036854775807/2^(sh bl-1))]) aqc rfl ⟨rfl,uT⟩
 ·have hb1:(bl==bh)=false:=by simp[hb]
  have hb2:(bl !=bh)=true:=by simp[hb]
  by_cases h0:0≤al
  ·have e:Fp ⟨al,ah⟩ ⟨bl,bh⟩=⟨0,ah⟩:=by unfold Fp;simp[hb,h0]
   rw[e];clear e hb;go_enter Tryz.func192,Tryz.ntmps192;go_wp2_with ((go_at_call 153;refine(yP _).mono ?_;rintro e w1 ⟨rfl,hb⟩;(obtain⟨hc,hf⟩:=jd hb;have hz:=hb.size;simp at hz;have HB:=bW hb;clear hb)));exact bodyPost_ret (v:=.agg #[aU 0,aU ah]) aqc rfl ⟨rfl,uT⟩
  ·have e:Fp ⟨al,ah⟩ ⟨bl,bh⟩=fP:=by unfold Fp;simp[hb,h0]
   rw[e];clear e hb;go_enter Tryz.func192,Tryz.ntmps192;go_wp2_with ((go_at_call 153;refine(yP _).mono ?_;rintro e w1 ⟨rfl,hb⟩;(obtain⟨hc,hf⟩:=jd hb;have hz:=hb.size;simp at hz;have HB:=bW hb;clear hb)));exact bodyPost_ret (v:=.agg #[aU (-9223372036854775808),aU 9223372036854775807]) (by simp[results,Tryz.results192,go_sem,hc]) rfl ⟨rfl,uT⟩
theorem aFp(al ah bl bh:Int)(w:World) :
  Calls Tryz.prog 193 #[.agg #[aU al,aU ah],.agg #[aU bl,aU bh]] w fun e w'=>e=.returned (.agg #[aU (Ir ⟨al,ah⟩ ⟨bl,bh⟩).lo,aU (Ir ⟨al,ah⟩ ⟨bl,bh⟩).hi])∧Below w.heap.size w w':=by
 have ke:=auD bl;have k0:(0:Int)≤(sh bl:Int):=bQ;have k2:(sh bl:Int)≤64:=auC;by_cases hb:bl=bh
 ·subst hb;have e:Ir ⟨al,ah⟩ ⟨bl,bl⟩=⟨al/2^sh bl,ah/2^sh bl⟩:=by unfold Ir;simp
  rw[e];clear e;go_enter Tryz.func193,Tryz.ntmps193;go_wp2_with ((go_at_call 153;refine(yP _).mono ?_;rintro e w1 ⟨rfl,hb⟩;(obtain⟨hc,hf⟩:=jd hb;have hz:=hb.size;simp at hz;have HB:=bW hb;clear hb)));exact bodyPost_ret (v:=.agg #[aU (al/2^sh bl),aU (ah/2^sh bl)]) aqd rfl ⟨rfl,uT⟩
 ·have hb1:(bl==bh)=false:=by simp[hb]
  by_cases h0:0≤al
  ·have e:Ir ⟨al,ah⟩ ⟨bl,bh⟩=⟨0,ah⟩:=by unfold Ir;simp[hb,h0]
   rw[e];clear e hb;go_enter Tryz.func193,Tryz.ntmps193;go_wp2_with ((go_at_call 153;refine(yP _).mono ?_;rintro e w1 ⟨rfl,hb⟩;(obtain⟨hc,hf⟩:=jd hb;have hz:=hb.size;simp at hz;have HB:=bW hb;clear hb)));exact bodyPost_ret (v:=.agg #[aU 0,aU ah]) aqd rfl ⟨rfl,uT⟩
  ·by_cases h3:ah<0
   ·have e:Ir ⟨al,ah⟩ ⟨bl,bh⟩=⟨al,-1⟩:=by unfold Ir;simp[hb,h0,h3]
    rw[e];clear e hb;go_enter Tryz.func193,Tryz.ntmps193;go_wp2_with ((go_at_call 153;refine(yP _).mono ?_;rintro e w1 ⟨rfl,hb⟩;(obtain⟨hc,hf⟩:=jd hb;have hz:=hb.size;simp at hz;have HB:=bW hb;clear hb)));exact bodyPost_ret (v:=.agg #[aU al,aU (-1)]) aqd rfl ⟨rfl,uT⟩
   ·have e:Ir ⟨al,ah⟩ ⟨bl,bh⟩=⟨al,ah⟩:=by unfold Ir;simp[hb,h0,h3]
    rw[e];clear e hb;go_enter Tryz.func193,Tryz.ntmps193;go_wp2_with ((go_at_call 153;refine(yP _).mono ?_;rintro e w1 ⟨rfl,hb⟩;(obtain⟨hc,hf⟩:=jd hb;have hz:=hb.size;simp at hz;have HB:=bW hb;clear hb)));exact bodyPost_ret (v:=.agg #[aU al,aU ah]) aqd rfl ⟨rfl,uT⟩
theorem ar0(c al ah bl bh:Int)(hc3:c=7∨c=8∨c=9)(ha:In64 ah)(hb:In64 bh)(w:World) :
  Calls Tryz.prog 190 #[aU c,.agg #[aU al,aU ah],.agg #[aU bl,aU bh]] w fun e w'=>e=.returned (.agg #[aU (sQ c ⟨al,ah⟩ ⟨bl,bh⟩).lo,aU (sQ c ⟨al,ah⟩ ⟨bl,bh⟩).hi])∧Below w.heap.size w w':=by
 have hm:=bW (show In64 (max ah bh)by unfold In64 at *;omega);clear ha hb;rcases hc3 with rfl|rfl|rfl
 ·by_cases h1:0≤al
  ·by_cases h2:0≤bl
   ·have e:sQ 7 ⟨al,ah⟩ ⟨bl,bh⟩=⟨0,min ah bh⟩:=aks;rw[e];clear e;go_enter Tryz.func190,Tryz.ntmps190;go_wp2_with (first|(go_at_call 153;refine(yP _).mono ?_;rintro e w1 ⟨rfl,hb⟩;(obtain⟨hc,hf⟩:=jd hb;have hz:=hb.size;simp at hz;have HB:=bW hb;clear hb))|(go_at_call 207;refine(aee _ hm.out _).mono ?_;rintro e w' ⟨rfl,rfl⟩));exact bodyPost_ret (v:=.agg #[aU 0,aU (min ah bh)]) anu rfl ⟨rfl,uT⟩
   ·have e:sQ 7 ⟨al,ah⟩ ⟨bl,bh⟩=⟨0,ah⟩:=aks;rw[e];clear e;go_enter Tryz.func190,Tryz.ntmps190;go_wp2_with (first|(go_at_call 153;refine(yP _).mono ?_;rintro e w1 ⟨rfl,hb⟩;(obtain⟨hc,hf⟩:=jd hb;have hz:=hb.size;simp at hz;have HB:=bW hb;clear hb))|(go_at_call 207;refine(aee _ hm.out _).mono ?_;rintro e w' ⟨rfl,rfl⟩));exact bodyPost_ret (v:=.agg #[aU 0,aU ah]) anu rfl ⟨rfl,uT⟩
  ·by_cases h2:0≤bl
   ·have e:sQ 7 ⟨al,ah⟩ ⟨bl,bh⟩=⟨0,bh⟩:=aks;rw[e];clear e;go_enter Tryz.func190,Tryz.ntmps190;go_wp2_with (first|(go_at_call 153;refine(yP _).mono ?_;rintro e w1 ⟨rfl,hb⟩;(obtain⟨hc,hf⟩:=jd hb;have hz:=hb.size;simp at hz;have HB:=bW hb;clear hb))|(go_at_call 207;refine(aee _ hm.out _).mono ?_;rintro e w' ⟨rfl,rfl⟩));exact bodyPost_ret (v:=.agg #[aU 0,aU bh]) anu rfl ⟨rfl,uT⟩
   ·have e:sQ 7 ⟨al,ah⟩ ⟨bl,bh⟩=fP:=aks;exact anW
 ·by_cases h1:al<0
  ·have e:sQ 8 ⟨al,ah⟩ ⟨bl,bh⟩=fP:=by unfold sQ;simp[h1]
   exact anW
  ·by_cases h2:bl<0
   ·have e:sQ 8 ⟨al,ah⟩ ⟨bl,bh⟩=fP:=by unfold sQ;simp[h2]
    exact anW
   ·have e:sQ 8 ⟨al,ah⟩ ⟨bl,bh⟩=⟨max al bl,P.fill (max ah bh)⟩:=aks;rw[e];clear e;go_enter Tryz.func190,Tryz.ntmps190;go_wp2_with (first|(go_at_call 153;refine(yP _).mono ?_;rintro e w1 ⟨rfl,hb⟩;(obtain⟨hc,hf⟩:=jd hb;have hz:=hb.size;simp at hz;have HB:=bW hb;clear hb))|(go_at_call 207;refine(aee _ hm.out _).mono ?_;rintro e w' ⟨rfl,rfl⟩));refine ak9 12 dF dF ?_;refine aoy ?_;repeat still_step
    still_call ((aee _ hm.out _).mono (fun _ _ h=>⟨h.1,h.2.symm⟩))
    repeat still_step
    refine wpStill_nil ?_;go_wp2_with fail;exact bodyPost_ret (v:=.agg #[aU (max al bl),aU (P.fill (max ah bh))]) anu rfl ⟨rfl,uT⟩
 ·by_cases h1:al<0
  ·have e:sQ 9 ⟨al,ah⟩ ⟨bl,bh⟩=fP:=by unfold sQ;simp[h1]
   exact anW
  ·by_cases h2:bl<0
   ·have e:sQ 9 ⟨al,ah⟩ ⟨bl,bh⟩=fP:=by unfold sQ;simp[h2]
    exact anW
   ·have e:sQ 9 ⟨al,ah⟩ ⟨bl,bh⟩=⟨0,P.fill (max ah bh)⟩:=aks;rw[e];clear e;go_enter Tryz.func190,Tryz.ntmps190;go_wp2_with (first|(go_at_call 153;refine(yP _).mono ?_;rintro e w1 ⟨rfl,hb⟩;(obtain⟨hc,hf⟩:=jd hb;have hz:=hb.size;simp at hz;have HB:=bW hb;clear hb))|(go_at_call 207;refine(aee _ hm.out _).mono ?_;rintro e w' ⟨rfl,rfl⟩));exact bodyPost_ret (v:=.agg #[aU 0,aU (P.fill (max ah bh))]) anu rfl ⟨rfl,uT⟩
end Go.Proofs.YtglilddlhibogaaGreatDoor.W
