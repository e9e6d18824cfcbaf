/- A part of the proof; each theorem states its conditions. -/
import Derived.Test.YtglilddlhibogaaGreatDoorW1
set_option linter.unusedSimpArgs false
set_option linter.unusedVariables false
set_option maxRecDepth 100000
set_option maxHeartbeats 100000000
namespace Go.Proofs.YtglilddlhibogaaGreatDoor.W
open Go.RowKit Go.Proofs.YtglilddlhibogaaGreatDoor.P
theorem mV{a b:Int}(h:a≠b):(a==b)=false:=auR
theorem Kw{a b:Int}(h:a=b):(a==b)=true:=by rw[beq_iff_eq];exact h
theorem Dl{a b:Int}(h:a≠b):(a !=b)=true:=by rw[bne_iff_ne];exact h
def wI(k:Int):Prop:=k=0∨k=1∨k=2∨k=3∨k=4∨k=5
theorem Gp{k:Int}(h:wI k):letter k=0↔k=0:=by rcases h with rfl|rfl|rfl|rfl|rfl|rfl<;>simp[letter]
theorem DT{k:Int}(h:wI k):letter k=110↔k=1:=by rcases h with rfl|rfl|rfl|rfl|rfl|rfl<;>simp[letter]
theorem aCe{k:Int}(h:wI k):letter k=116↔k=2:=by rcases h with rfl|rfl|rfl|rfl|rfl|rfl<;>simp[letter]
theorem aCf{k:Int}(h:wI k):letter k=102↔k=3:=by rcases h with rfl|rfl|rfl|rfl|rfl|rfl<;>simp[letter]
theorem aCg{k:Int}(h:wI k):letter k=99↔k=4:=by rcases h with rfl|rfl|rfl|rfl|rfl|rfl<;>simp[letter]
theorem ao3{k:Int}(h:wI k):letter k=109↔k=5:=by rcases h with rfl|rfl|rfl|rfl|rfl|rfl<;>simp[letter]
theorem agZ(k lo hi:Int)(hk:k=2∨k=3∨k=4)(w:World) :
  Calls Tryz.prog 149 #[.agg #[.int .u8 (letter k),aU lo,aU hi]] w fun e w'=>e=.returned (.bool true)∧w.alloc (.cells #[.int .u8 (letter k),aU lo,aU hi] 180)=w':=by
 refine fU ?_;intro HW0;rcases hk with rfl|rfl|rfl
 all_goals
  simp only[letter,show¬(2:Int)=0 by decide,show¬(2:Int)=1 by decide,show¬(3:Int)=0 by decide,show¬(3:Int)=1 by decide,show¬(3:Int)=2 by decide,show¬(4:Int)=0 by decide,show¬(4:Int)=1 by decide,show¬(4:Int)=2 by decide,show¬(4:Int)=3 by decide,if_true,if_false];go_enter Tryz.func149,Tryz.ntmps149;go_wp2_with fail;go_ret
  exact⟨rfl,rfl⟩
theorem amr(k lo hi:Int)(hk:k=0∨k=1∨k=5)(w:World) :
  Calls Tryz.prog 149 #[.agg #[.int .u8 (letter k),aU lo,aU hi]] w fun e w'=>e=.returned (.bool false)∧w.alloc (.cells #[.int .u8 (letter k),aU lo,aU hi] 180)=w':=by
 refine fU ?_;intro HW0;rcases hk with rfl|rfl|rfl
 all_goals
  simp only[letter,show¬(5:Int)=0 by decide,show¬(5:Int)=1 by decide,show¬(5:Int)=2 by decide,show¬(5:Int)=3 by decide,show¬(5:Int)=4 by decide,show¬(1:Int)=0 by decide,if_true,if_false];go_enter Tryz.func149,Tryz.ntmps149;go_wp2_with fail;go_ret
  exact⟨rfl,rfl⟩
theorem aG0(c ka la ha kb lb hb:Int)(DZ:wI ka)(okb:wI kb)(h:kb=0∨(ka=0∧c≠1))(w:World) :
  Calls Tryz.prog 107 #[aU c,.agg #[.int .u8 (letter ka),aU la,aU ha],.agg #[.int .u8 (letter kb),aU lb,aU hb]] w fun e w' =>
   e=.returned (.tuple #[.agg #[.int .u8 0,aU 0,aU 0],aU 8])∧Below w.heap.size w w':=by
 refine fU ?_;intro HW0;have a0:=Gp DZ;have b0:=Gp okb;generalize letter ka=pa at *;generalize letter kb=pb at *;by_cases e:pb=0
 ·have t1:=Kw e;clear h a0 b0 e;exact aqB
 ·have t1:=mV e;have t2:(pa==0)=true:=Kw (by rw[a0];rcases h with h|h;exact absurd (b0.2 h) e;exact h.1);have t3:(c !=1)=true:=Dl (by rcases h with h|h;exact absurd (b0.2 h) e;exact h.2);clear h a0 b0 e;exact aqB
theorem aG1(ka la ha kb lb hb:Int)(DZ:wI ka)(okb:wI kb)(h:kb≠0)(w:World) :
  Calls Tryz.prog 107 #[aU 1,.agg #[.int .u8 (letter ka),aU la,aU ha],.agg #[.int .u8 (letter kb),aU lb,aU hb]] w fun e w' =>
   e=.returned (.tuple #[.agg #[.int .u8 (letter kb),aU lb,aU hb],aU 0])∧Below w.heap.size w w':=by
 refine fU ?_;intro HW0;have t1:=mV (show letter kb≠0 from fun e=>h ((Gp okb).1 e));generalize letter ka=pa at *;generalize letter kb=pb at *;by_cases e:pa=0
 ·have t2:=Kw e;clear h e;exact aqB
 ·have t2:=mV e;clear h e;exact aqB
theorem aG2(c la ha lb hb:Int)(c1:c≠1)(oa:P.B.Ok ⟨la,ha⟩)(ob:P.B.Ok ⟨lb,hb⟩)(w:World)(hg:nH w) :
  Calls Tryz.prog 107 #[aU c,.agg #[.int .u8 110,aU la,aU ha],.agg #[.int .u8 110,aU lb,aU hb]] w fun e w' =>
   e=.returned (.tuple #[.agg #[.int .u8 110,aU (dV c ⟨la,ha⟩ ⟨lb,hb⟩).lo,aU (dV c ⟨la,ha⟩ ⟨lb,hb⟩).hi],aU 0])∧Below w.heap.size w w':=by
 have gz:=hg.lt;refine fU ?_;intro HW0;have t1:=mV c1;have t2:=Dl c1;have C:=bW (fun w (hg:nH w)=>ams c la ha lb hb oa.1 oa.2.1 ob.1 ob.2.1 oa.2.2 ob.2.2 w hg.1 hg.2 hg.lt);generalize dV c ⟨la,ha⟩ ⟨lb,hb⟩=d at *;obtain⟨dl,dh⟩:=d;have HG:=bW hg;clear c1 oa ob hg;go_enter Tryz.func107,Tryz.ntmps107;go_wp2_with fail;refine amu ?_;refine Gy ?_;intro w1 hc1 hf1 hz1 HW1 z10 z11 z12;refine ape ?_;intro Tf Ti Tj Tm Tn Tq;clear hc1 hf1;go_wp2_with fail;refine bodyPost_ret ?_ rfl ⟨rfl,jZ⟩;exact apf
theorem aG3(ka la ha kb lb hb:Int)(DZ:wI ka)(okb:wI kb)(ha0:ka≠0)(hb0:kb≠0)(h1:ka≠1)(hp:kb=2∨kb=3∨kb=4)(w:World) :
  Calls Tryz.prog 107 #[aU 2,.agg #[.int .u8 (letter ka),aU la,aU ha],.agg #[.int .u8 (letter kb),aU lb,aU hb]] w fun e w' =>
   e=.returned (.tuple #[.agg #[.int .u8 0,aU 0,aU 0],aU 1])∧Below w.heap.size w w':=by
 refine ajK ?_;intro HW0 ta tb;have t1:=mV (show letter ka≠110 from fun e=>h1 ((DT DZ).1 e));have t2:=Dl (show letter ka≠110 from fun e=>h1 ((DT DZ).1 e));have HPB:=bW hp;clear ha0 hb0 h1 hp;go_enter Tryz.func107,Tryz.ntmps107;go_wp2_with (first|(go_at_call 149;with_reducible refine(agZ kb _ _ HPB.out _).mono ?_;rintro e w' ⟨rfl,rfl⟩));exact aub
theorem ayj(ka la ha kb lb hb:Int)(DZ:wI ka)(okb:wI kb)(ha0:ka≠0)(hb0:kb≠0)(hp:ka=1∨ka=5)(hq:kb=1∨kb=5)(hn:¬(ka=1∧kb=1))(w:World) :
  Calls Tryz.prog 107 #[aU 2,.agg #[.int .u8 (letter ka),aU la,aU ha],.agg #[.int .u8 (letter kb),aU lb,aU hb]] w fun e w' =>
   e=.returned (.tuple #[.agg #[.int .u8 0,aU 0,aU 0],aU 1])∧Below w.heap.size w w':=by
 refine ajK ?_;intro HW0 ta tb;have XF:=bW (show ka=0∨ka=1∨ka=5 by omega);have HPB:=bW (show kb=0∨kb=1∨kb=5 by omega);refine aAy ?_;intro ht;clear ha0 hb0 hp hq hn;rcases ht with t9|⟨t9,t10⟩
 all_goals
  go_enter Tryz.func107,Tryz.ntmps107;go_wp2_with (first|(go_at_call 149;with_reducible refine(amr kb _ _ HPB.out _).mono ?_;rintro e w' ⟨rfl,rfl⟩)|(go_at_call 149;with_reducible refine(amr ka _ _ XF.out _).mono ?_;rintro e w' ⟨rfl,rfl⟩));refine bodyPost_ret (v:=.tuple #[.agg #[.int .u8 0,aU 0,aU 0],aU 1]) ?_ rfl ⟨rfl,gI⟩;simp[results,Tryz.results107,go_sem, *]
theorem aG5(c:Int)(ka la ha kb lb hb:Int)(DZ:wI ka)(okb:wI kb)(ha0:ka≠0)(hb0:kb≠0)(c1:c≠1)(c2:c≠2)(hp:ka=1∨ka=5)(hn:¬(ka=1∧kb=1))(w:World) :
  Calls Tryz.prog 107 #[aU c,.agg #[.int .u8 (letter ka),aU la,aU ha],.agg #[.int .u8 (letter kb),aU lb,aU hb]] w fun e w' =>
   e=.returned (.tuple #[.agg #[.int .u8 0,aU 0,aU 0],aU 1])∧Below w.heap.size w w':=by
 refine ajK ?_;intro HW0 ta tb;have XF:=bW (show ka=0∨ka=1∨ka=5 by omega);have t2:=mV c1;have t3:=Dl c1;have t4:=mV c2;refine aAy ?_;intro ht;clear ha0 hb0 hp hn c1 c2;rcases ht with t9|⟨t9,t10⟩
 all_goals
  go_enter Tryz.func107,Tryz.ntmps107;go_wp2_with (first|(go_at_call 149;with_reducible refine(amr ka _ _ XF.out _).mono ?_;rintro e w' ⟨rfl,rfl⟩));refine bodyPost_ret (v:=.tuple #[.agg #[.int .u8 0,aU 0,aU 0],aU 1]) ?_ rfl ⟨rfl,gI⟩;simp[results,Tryz.results107,go_sem, *]
theorem aG7(c:Int)(ka la ha kb lb hb:Int)(DZ:wI ka)(okb:wI kb)(ha0:ka≠0)(hb0:kb≠0)(c1:c≠1)(c2:c≠2)(hp:ka=2∨ka=3∨ka=4)(hq:kb≠1)(w:World) :
  Calls Tryz.prog 107 #[aU c,.agg #[.int .u8 (letter ka),aU la,aU ha],.agg #[.int .u8 (letter kb),aU lb,aU hb]] w fun e w' =>
   e=.returned (.tuple #[.agg #[.int .u8 0,aU 0,aU 0],aU 1])∧Below w.heap.size w w':=by
 refine ajK ?_;intro HW0 ta tb;have XF:=bW hp;have t2:=mV c1;have t3:=Dl c1;have t4:=mV c2;refine auX ?_;intro t5;have t6:=Dl (show letter kb≠110 from fun e=>hq ((DT okb).1 e));clear ha0 hb0 hp hq c1 c2;exact aCh
theorem aG4(ka la ha kb lb hb:Int)(DZ:wI ka)(okb:wI kb)(ha0:ka≠0)(hb0:kb≠0)(hp:ka=2∨ka=3∨ka=4)(hq:kb=5)(w:World) :
  Calls Tryz.prog 107 #[aU 2,.agg #[.int .u8 (letter ka),aU la,aU ha],.agg #[.int .u8 (letter kb),aU lb,aU hb]] w fun e w' =>
   e=.returned (.tuple #[.agg #[.int .u8 0,aU 0,aU 0],aU 1])∧Below w.heap.size w w':=by
 refine ajK ?_;intro HW0 ta tb;have XF:=bW hp;have HPB:=bW (show kb=0∨kb=1∨kb=5 by omega);refine auX ?_;intro t5;have t6:=Dl (show letter kb≠110 from fun e=>by have:=(DT okb).1 e;omega);clear ha0 hb0 hp hq;go_enter Tryz.func107,Tryz.ntmps107;go_wp2_with (first|(go_at_call 149;with_reducible refine(amr kb _ _ HPB.out _).mono ?_;rintro e w' ⟨rfl,rfl⟩)|(go_at_call 149;with_reducible refine(agZ ka _ _ XF.out _).mono ?_;rintro e w' ⟨rfl,rfl⟩));exact aub
theorem aG6(c:Int)(ka la ha kb lb hb:Int)(DZ:wI ka)(okb:wI kb)(ha0:ka≠0)(hb0:kb≠0)(c1:c≠1)(c2:c≠2)(c3:c≠3)(hp:ka=2∨ka=3∨ka=4)(hq:kb=1)(w:World) :
  Calls Tryz.prog 107 #[aU c,.agg #[.int .u8 (letter ka),aU la,aU ha],.agg #[.int .u8 (letter kb),aU lb,aU hb]] w fun e w' =>
   e=.returned (.tuple #[.agg #[.int .u8 0,aU 0,aU 0],aU 1])∧Below w.heap.size w w':=by
 refine ajK ?_;intro HW0 ta tb;have XF:=bW hp;have t2:=mV c1;have t3:=Dl c1;have t4:=mV c2;have t7:=Dl c2;have t8:=Dl c3;refine auX ?_;intro t5;have t6:(letter kb !=110)=false:=by rw[(DT okb).2 hq];rfl
 clear ha0 hb0 hp hq c1 c2 c3;exact aCh
end Go.Proofs.YtglilddlhibogaaGreatDoor.W
