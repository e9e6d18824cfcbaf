/- A part of the proof; each theorem states its conditions. -/
import Derived.Test.YtglilddlhibogaaGreatDoorOrd
import Derived.Test.YtglilddlhibogaaGreatDoorWalkBound
import Derived.Test.YtglilddlhibogaaGreatDoorWalkRef
set_option linter.unusedSimpArgs false
set_option linter.unusedVariables false
set_option maxRecDepth 100000
set_option maxHeartbeats 100000000
namespace Go.Proofs.YtglilddlhibogaaGreatDoor.W
open Go.RowKit Go.Proofs.YtglilddlhibogaaGreatDoor.P
theorem VW(n:Int)(w:World) :
  Calls Tryz.prog 73 #[aU n] w fun e w'=>e=.returned (.agg #[aU n,aU n])∧Below w.heap.size w w':=by
 go_enter Tryz.func73,Tryz.ntmps73;go_wp2_with fail;exact bodyPost_ret (v:=.agg #[aU n,aU n]) (by simp[results,Tryz.results73,go_sem]) rfl ⟨rfl,uT⟩
theorem QO(al ah bl bh:Int)(w:World) :
  Calls Tryz.prog 75 #[.agg #[aU al,aU ah],.agg #[aU bl,aU bh]] w fun e w'=>e=.returned (.agg #[aU (min al bl),aU (max ah bh)])∧Below w.heap.size w w':=by
 go_enter Tryz.func75,Tryz.ntmps75;go_wp2_with fail;exact bodyPost_ret (v:=.agg #[aU (min al bl),aU (max ah bh)]) (by simp[results,Tryz.results75,go_sem]) rfl ⟨rfl,uT⟩
theorem YA(al ah bl bh:Int)(w:World) :
  Calls Tryz.prog 175 #[.agg #[aU al,aU ah],.agg #[aU bl,aU bh]] w fun e w' =>
   e=.returned (.tuple #[.agg #[aU (ji ⟨al,ah⟩ ⟨bl,bh⟩).1.lo,aU (ji ⟨al,ah⟩ ⟨bl,bh⟩).1.hi],.bool (ji ⟨al,ah⟩ ⟨bl,bh⟩).2])∧Below w.heap.size w w':=by
 by_cases h:max al bl>min ah bh
 ·have hm:ji ⟨al,ah⟩ ⟨bl,bh⟩=(⟨0,0⟩,false):=by unfold ji kK;rw[dB h]
  rw[hm];clear hm;go_enter Tryz.func175,Tryz.ntmps175;go_wp2_with fail;exact bodyPost_ret (v:=.tuple #[.agg #[aU 0,aU 0],.bool false]) (by simp[results,Tryz.results175,go_sem]) rfl ⟨rfl,uT⟩
 ·have hm:ji ⟨al,ah⟩ ⟨bl,bh⟩=(⟨max al bl,min ah bh⟩,true):=by unfold ji;rw[dw h]
  rw[hm];clear hm;go_enter Tryz.func175,Tryz.ntmps175;go_wp2_with fail;exact bodyPost_ret (v:=.tuple #[.agg #[aU (max al bl),aU (min ah bh)],.bool true]) (by simp[results,Tryz.results175,go_sem]) rfl ⟨rfl,uT⟩
theorem adr(a b:Int)(hb:In64 b)(w:World) :
  Calls Tryz.prog 177 #[aU a,aU b] w fun e w'=>e=.returned (.tuple #[aU (Ol a b).1,.bool (Ol a b).2])∧w=w':=by
 have b1:b≤9223372036854775807:=hb.2;have b2:-9223372036854775808≤b:=hb.1;clear hb;by_cases h1:0<b
 ·have n1:¬b<0:=bQ;by_cases h2:a>9223372036854775807-b
  ·have e:Ol a b=(0,false):=by unfold Ol;rw[dB (.inl ⟨h1,h2⟩)]
   rw[e];clear e;go_enter Tryz.func177,Tryz.ntmps177;exact adn
  ·exact av3
 ·by_cases h3:b<0
  ·by_cases h4:a < -9223372036854775808-b
   ·have e:Ol a b=(0,false):=by unfold Ol;rw[dB (.inr ⟨h3,h4⟩)]
    rw[e];clear e;go_enter Tryz.func177,Tryz.ntmps177;exact adn
   ·exact av3
  ·exact av3
theorem ads(a b:Int)(hb:In64 b)(w:World) :
  Calls Tryz.prog 178 #[aU a,aU b] w fun e w'=>e=.returned (.tuple #[aU (Om a b).1,.bool (Om a b).2])∧w=w':=by
 have b1:b≤9223372036854775807:=hb.2;have b2:-9223372036854775808≤b:=hb.1;clear hb;by_cases h1:0<b
 ·have n1:¬b<0:=bQ;by_cases h2:a < -9223372036854775808+b
  ·have e:Om a b=(0,false):=by unfold Om;rw[dB (.inl ⟨h1,h2⟩)]
   rw[e];clear e;go_enter Tryz.func178,Tryz.ntmps178;exact adn
  ·exact av4
 ·by_cases h3:b<0
  ·by_cases h4:a>9223372036854775807+b
   ·have e:Om a b=(0,false):=by unfold Om;rw[dB (.inr ⟨h3,h4⟩)]
    rw[e];clear e;go_enter Tryz.func178,Tryz.ntmps178;exact adn
   ·exact av4
  ·exact av4
theorem akI(a k:Int)(ha:In64 a)(hk:In64 k)(w:World) :
  Calls Tryz.prog 180 #[aU a,aU k] w fun e w'=>e=.returned (aU (P.does 12 a k))∧w=w':=by
 have ha':=bW ha;have hk':=bW hk;clear ha hk;go_enter Tryz.func180,Tryz.ntmps180;go_wp2_with fail;refine(adi _ _ _ ha'.out hk'.out _).mono ?_;rintro e w' ⟨rfl,rfl⟩;exact ac0
theorem aF7(c:Int)(hc:P.asks c=true)(w:World) :
  Calls Tryz.prog 145 #[aU c] w fun e w'=>e=.returned (aU (NU c))∧Below w.heap.size w w':=by
 rcases atJ hc with rfl|rfl|rfl|rfl|rfl|rfl|rfl|rfl|rfl|rfl
 all_goals
  clear hc;go_enter Tryz.func145,Tryz.ntmps145;go_wp2_with fail;refine wp_loop_rounds 6 ?_;rw[rounds_succ];go_wp2_with (rw[rounds_succ]);go_ret
  exact⟨rfl,uT⟩
theorem avc(al ah bl bh:Int)(ia:In64 al)(eP:In64 ah)(ha:al≤ah)(w:World) :
  Calls Tryz.prog 176 #[.agg #[aU al,aU ah],.agg #[aU bl,aU bh]] w fun e w'=>e=.returned (.agg #[aU (lS ⟨al,ah⟩ ⟨bl,bh⟩).lo,aU (lS ⟨al,ah⟩ ⟨bl,bh⟩).hi])∧Below w.heap.size w w':=by
 by_cases h1:bl=bh
 ·by_cases h2:al<ah
  ·have t1:(bl==bh)=true:=AO;have t2:(al !=ah)=true:=eU;have v1:al+1≤9223372036854775807:=aqr;have v2:-9223372036854775808≤al+1:=apH;have v3:ah-1≤9223372036854775807:=aqr;have v4:-9223372036854775808≤ah-1:=apH;by_cases h3:al=bl
   ·have e:lS ⟨al,ah⟩ ⟨bl,bh⟩=⟨al+1,ah⟩:=by unfold lS;rw[dB ⟨h1,h2⟩,dB h3]
    rw[e];have t3:(al==bl)=true:=YO;clear e h1 h2 h3 ia eP ha;go_enter Tryz.func176,Tryz.ntmps176;go_wp2_with fail;exact bodyPost_ret (v:=.agg #[aU (al+1),aU ah]) auJ rfl ⟨rfl,uT⟩
   ·have t3:(al==bl)=false:=YO;by_cases h4:ah=bl
    ·have e:lS ⟨al,ah⟩ ⟨bl,bh⟩=⟨al,ah-1⟩:=by unfold lS;rw[dB ⟨h1,h2⟩,dw h3,dB h4]
     rw[e];have t4:(ah==bl)=true:=by simp[h4]
     clear e h1 h2 h3 h4 ia eP ha;go_enter Tryz.func176,Tryz.ntmps176;go_wp2_with fail;exact bodyPost_ret (v:=.agg #[aU al,aU (ah-1)]) auJ rfl ⟨rfl,uT⟩
    ·have e:lS ⟨al,ah⟩ ⟨bl,bh⟩=⟨al,ah⟩:=by unfold lS;rw[dB ⟨h1,h2⟩,dw h3,dw h4]
     rw[e];have t4:(ah==bl)=false:=by simp[h4]
     clear e h1 h2 h3 h4 ia eP ha;exact av5
  ·have e:lS ⟨al,ah⟩ ⟨bl,bh⟩=⟨al,ah⟩:=by unfold lS;rw[dw JC]
   rw[e];have t1:(bl==bh)=true:=AO;have t2:(al !=ah)=false:=eU;clear e h1 h2 ia eP ha;exact av5
 ·have e:lS ⟨al,ah⟩ ⟨bl,bh⟩=⟨al,ah⟩:=by unfold lS;rw[dw JC]
  rw[e];have t1:(bl==bh)=false:=AO;clear e h1 ia eP ha;exact av5
end Go.Proofs.YtglilddlhibogaaGreatDoor.W
