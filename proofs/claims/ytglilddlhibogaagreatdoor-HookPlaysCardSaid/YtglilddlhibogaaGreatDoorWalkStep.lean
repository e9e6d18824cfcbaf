/- A part of the proof; each theorem states its conditions. -/
import Derived.Test.YtglilddlhibogaaGreatDoorWalkBound
import Derived.Test.YtglilddlhibogaaGreatDoorWalkRef
set_option linter.unusedSimpArgs false
set_option linter.unusedVariables false
set_option maxRecDepth 100000
set_option maxHeartbeats 100000000
namespace Go.Proofs.YtglilddlhibogaaGreatDoor.W
open Go.RowKit Go.Proofs.YtglilddlhibogaaGreatDoor.P
def Ya(k:Int):Value:=if k=0 then .nilIface else .iface 30 (aU k)
theorem apv:Ya 0=.nilIface:=rfl
theorem Ut{k:Int}(h:k≠0):Ya k=.iface 30 (aU k):=dw h
theorem av9(n:Int)(w:World):Calls Tryz.prog 101 #[aU n] w fun e w'=>e=.returned (.bool (decide (0≤n)&&decide (n<11)))∧w=w':=by
 by_cases h:0≤n;all_goals
  go_enter Tryz.func101,Tryz.ntmps101;go_wp2_with fail;go_ret
  exact⟨aap (by simp[h];try omega),rfl⟩
theorem awc(c:Int)(w:World):Calls Tryz.prog 102 #[aU c] w fun e w'=>e=.returned (.bool (decide (1≤c)&&decide (c≤12)))∧w=w':=by
 by_cases h:1≤c;all_goals
  go_enter Tryz.func102,Tryz.ntmps102;go_wp2_with fail;go_ret
  exact⟨aap (by simp[h];try omega),rfl⟩
theorem awd(c:Int)(w:World):Calls Tryz.prog 57 #[aU c] w fun e w'=>e=.returned (.bool (decide (1≤c)&&decide (c≤12)))∧w=w':=by
 go_enter Tryz.func57,Tryz.ntmps57;go_wp2_with (go_at_call 50;refine(Zd _ _ _ _).mono ?_;rintro e w' ⟨rfl,rfl⟩);exact amg
theorem aOP(c:Int)(hc:c<1∨28<c)(d s:Int)(r:Bool)(o n:Int)(w:World) :
  Calls Tryz.prog 71 #[.agg #[aU c,aU d,aU s,.bool r,aU o,aU n]] w fun e w'=>e=.returned (Ya (wrong c d s r o n))∧Below w.heap.size w w':=by
 refine fU ?_;intro HW0;rw[adt hc];by_cases h1:c<1
 ·have h2:¬1≤c:=bQ;have h5:(decide (1≤c)&&decide (c≤28))=false:=eU;clear hc;go_enter Tryz.func71,Tryz.ntmps71;exact YG
 ·have h2:1≤c:=bQ;have h3:28<c:=bQ;have h4:¬c≤28:=bQ;clear hc;go_enter Tryz.func71,Tryz.ntmps71;exact YG
theorem aOQ(c:Int)(hc:1≤c∧c≤12)(d s:Int)(r:Bool)(o n:Int)(w:World) :
  Calls Tryz.prog 71 #[.agg #[aU c,aU d,aU s,.bool r,aU o,aU n]] w fun e w'=>e=.returned (Ya (wrong c d s r o n))∧Below w.heap.size w w':=by
 refine apR ?_;intro HW0 f13 f14 f25 f26 f27 f1 f28 f1b ank;have f12:c≤12:=bQ;have awh:c≤13:=bQ;have f15:¬15≤c:=bQ;cases r;all_goals
  go_enter Tryz.func71,Tryz.ntmps71;go_wp2_with (first|(go_at_call 101;refine(av9 _ _).mono ?_;rintro e w' ⟨rfl,rfl⟩)|(go_at_call 102;refine(awc _ _).mono ?_;rintro e w' ⟨rfl,rfl⟩)|(go_at_call 68;refine(N9 _ _).mono ?_;rintro e w' ⟨rfl,rfl⟩;rw[jX]))
 all_goals
  go_ret
  refine⟨?_,gI⟩
  (try simp only[Bool.not_eq_eq_eq_not,Bool.not_true,Bool.not_false,decide_eq_true_eq,decide_eq_false_iff_not,Bool.or_eq_true,Bool.and_eq_true,Bool.or_eq_false_iff,Bool.and_eq_false_iff,beq_iff_eq,beq_eq_false_iff_ne,bne_iff_ne,bne_eq_false_iff_eq,ne_eq]at *)
  (first|(rw[adt iU,Ut dS];rfl)|(rw[ak3 iU iU,Ut dS];rfl)|(rw[ak4 iU iU iU,Ut dS];rfl)|(rw[ak5 iU iU iU iU,Ut dS];rfl)|(rw[ak6 iU iU iU iU,apv];rfl))
theorem aOR(d s:Int)(r:Bool)(o n:Int)(w:World) :
  Calls Tryz.prog 71 #[.agg #[aU 13,aU d,aU s,.bool r,aU o,aU n]] w fun e w'=>e=.returned (Ya (wrong 13 d s r o n))∧Below w.heap.size w w':=by
 exact ak2
theorem aOS(d s:Int)(r:Bool)(o n:Int)(w:World) :
  Calls Tryz.prog 71 #[.agg #[aU 14,aU d,aU s,.bool r,aU o,aU n]] w fun e w'=>e=.returned (Ya (wrong 14 d s r o n))∧Below w.heap.size w w':=by
 exact ak2
theorem aOT(c:Int)(hc:15≤c∧c≤24)(d s:Int)(r:Bool)(o n:Int)(w:World) :
  Calls Tryz.prog 71 #[.agg #[aU c,aU d,aU s,.bool r,aU o,aU n]] w fun e w'=>e=.returned (Ya (wrong c d s r o n))∧Below w.heap.size w w':=by
 refine apR ?_;intro HW0 f13 f14 f25 f26 f27 f1 f28 f1b ank;have f12:¬c≤12:=bQ;have awh:¬c≤13:=bQ;have aOU:13<c:=bQ;have f15:15≤c:=bQ;have f24:c≤24:=bQ;cases r;all_goals
  go_enter Tryz.func71,Tryz.ntmps71;go_wp2_with (first|(go_at_call 101;refine(av9 _ _).mono ?_;rintro e w' ⟨rfl,rfl⟩)|(go_at_call 102;refine(awc _ _).mono ?_;rintro e w' ⟨rfl,rfl⟩)|(go_at_call 68;refine(N9 _ _).mono ?_;rintro e w' ⟨rfl,rfl⟩;rw[jX]))
 all_goals
  go_ret
  refine⟨?_,gI⟩
  (try simp only[Bool.not_eq_eq_eq_not,Bool.not_true,Bool.not_false,decide_eq_true_eq,decide_eq_false_iff_not,Bool.or_eq_true,Bool.and_eq_true,Bool.or_eq_false_iff,Bool.and_eq_false_iff,beq_iff_eq,beq_eq_false_iff_ne,bne_iff_ne,bne_eq_false_iff_eq,ne_eq]at *)
  (first|(rw[adt iU,Ut dS];rfl)|(rw[ak3 iU iU,Ut dS];rfl)|(rw[ak4 iU iU iU,Ut dS];rfl)|(rw[ak5 iU iU iU iU,Ut dS];rfl)|(rw[ak6 iU iU iU iU,apv];rfl))
theorem aOV(d s:Int)(r:Bool)(o n:Int)(w:World) :
  Calls Tryz.prog 71 #[.agg #[aU 25,aU d,aU s,.bool r,aU o,aU n]] w fun e w'=>e=.returned (Ya (wrong 25 d s r o n))∧Below w.heap.size w w':=by
 exact ak2
theorem aOW(d s:Int)(r:Bool)(o n:Int)(w:World) :
  Calls Tryz.prog 71 #[.agg #[aU 26,aU d,aU s,.bool r,aU o,aU n]] w fun e w'=>e=.returned (Ya (wrong 26 d s r o n))∧Below w.heap.size w w':=by
 exact ak2
theorem aOX(d s:Int)(r:Bool)(o n:Int)(w:World) :
  Calls Tryz.prog 71 #[.agg #[aU 27,aU d,aU s,.bool r,aU o,aU n]] w fun e w'=>e=.returned (Ya (wrong 27 d s r o n))∧Below w.heap.size w w':=by
 exact ak2
theorem aOY(d s:Int)(r:Bool)(o n:Int)(w:World) :
  Calls Tryz.prog 71 #[.agg #[aU 28,aU d,aU s,.bool r,aU o,aU n]] w fun e w'=>e=.returned (Ya (wrong 28 d s r o n))∧Below w.heap.size w w':=by
 exact ak2
theorem aOZ(c:Int)(hc:c<1∨28<c)(d s:Int)(r:Bool)(o n:Int)(w:World) :
  Calls Tryz.prog 62 #[.agg #[aU c,aU d,aU s,.bool r,aU o,aU n]] w fun e w'=>e=.returned (aU (wrong c d s r o n))∧Below w.heap.size w w':=by
 refine fU ?_;intro HW0;rw[adt hc];have h5:(decide (1≤c)&&decide (c≤28))=false:=eU;clear hc;go_enter Tryz.func62,Tryz.ntmps62;go_wp2_with (go_at_call 50;refine(Zd _ _ _ _).mono ?_;rintro e w' ⟨rfl,rfl⟩);go_ret
 exact⟨rfl,gI⟩
theorem aO0(c:Int)(hc:1≤c∧c≤12)(d s:Int)(r:Bool)(o n:Int)(w:World) :
  Calls Tryz.prog 62 #[.agg #[aU c,aU d,aU s,.bool r,aU o,aU n]] w fun e w'=>e=.returned (aU (wrong c d s r o n))∧Below w.heap.size w w':=by
 refine apR ?_;intro HW0 f13 f14 f25 f26 f27 f1 f28 f1b ank;have f12:c≤12:=bQ;have awh:c≤13:=bQ;have f15:¬15≤c:=bQ;cases r;all_goals
  go_enter Tryz.func62,Tryz.ntmps62;go_wp2_with (first|(go_at_call 50;refine(Zd _ _ _ _).mono ?_;rintro e w' ⟨rfl,rfl⟩)|(go_at_call 57;refine(awd _ _).mono ?_;rintro e w' ⟨rfl,rfl⟩)|(go_at_call 58;refine(mg _ _).mono ?_;rintro e w' ⟨rfl,rfl⟩;rw[jX]))
 all_goals
  go_ret
  refine⟨?_,gI⟩
  (try simp only[Bool.not_eq_eq_eq_not,Bool.not_true,Bool.not_false,decide_eq_true_eq,decide_eq_false_iff_not,Bool.or_eq_true,Bool.and_eq_true,Bool.or_eq_false_iff,Bool.and_eq_false_iff,beq_iff_eq,beq_eq_false_iff_ne,bne_iff_ne,bne_eq_false_iff_eq,ne_eq]at *)
  (first|(rw[adt iU];rfl)|(rw[ak3 iU iU];rfl)|(rw[ak4 iU iU iU];rfl)|(rw[ak5 iU iU iU iU];rfl)|(rw[ak6 iU iU iU iU];rfl))
theorem aO1(d s:Int)(r:Bool)(o n:Int)(w:World) :
  Calls Tryz.prog 62 #[.agg #[aU 13,aU d,aU s,.bool r,aU o,aU n]] w fun e w'=>e=.returned (aU (wrong 13 d s r o n))∧Below w.heap.size w w':=by
 exact ak7
theorem aO2(d s:Int)(r:Bool)(o n:Int)(w:World) :
  Calls Tryz.prog 62 #[.agg #[aU 14,aU d,aU s,.bool r,aU o,aU n]] w fun e w'=>e=.returned (aU (wrong 14 d s r o n))∧Below w.heap.size w w':=by
 exact ak7
theorem aO3(c:Int)(hc:15≤c∧c≤24)(d s:Int)(r:Bool)(o n:Int)(w:World) :
  Calls Tryz.prog 62 #[.agg #[aU c,aU d,aU s,.bool r,aU o,aU n]] w fun e w'=>e=.returned (aU (wrong c d s r o n))∧Below w.heap.size w w':=by
 refine apR ?_;intro HW0 f13 f14 f25 f26 f27 f1 f28 f1b ank;have f12:¬c≤12:=bQ;have awh:¬c≤13:=bQ;have aOU:13<c:=bQ;have f15:15≤c:=bQ;have f24:c≤24:=bQ;cases r;all_goals
  go_enter Tryz.func62,Tryz.ntmps62;go_wp2_with (first|(go_at_call 50;refine(Zd _ _ _ _).mono ?_;rintro e w' ⟨rfl,rfl⟩)|(go_at_call 57;refine(awd _ _).mono ?_;rintro e w' ⟨rfl,rfl⟩)|(go_at_call 58;refine(mg _ _).mono ?_;rintro e w' ⟨rfl,rfl⟩;rw[jX]))
 all_goals
  go_ret
  refine⟨?_,gI⟩
  (try simp only[Bool.not_eq_eq_eq_not,Bool.not_true,Bool.not_false,decide_eq_true_eq,decide_eq_false_iff_not,Bool.or_eq_true,Bool.and_eq_true,Bool.or_eq_false_iff,Bool.and_eq_false_iff,beq_iff_eq,beq_eq_false_iff_ne,bne_iff_ne,bne_eq_false_iff_eq,ne_eq]at *)
  (first|(rw[adt iU];rfl)|(rw[ak3 iU iU];rfl)|(rw[ak4 iU iU iU];rfl)|(rw[ak5 iU iU iU iU];rfl)|(rw[ak6 iU iU iU iU];rfl))
theorem aO4(d s:Int)(r:Bool)(o n:Int)(w:World) :
  Calls Tryz.prog 62 #[.agg #[aU 25,aU d,aU s,.bool r,aU o,aU n]] w fun e w'=>e=.returned (aU (wrong 25 d s r o n))∧Below w.heap.size w w':=by
 exact ak7
theorem aO5(d s:Int)(r:Bool)(o n:Int)(w:World) :
  Calls Tryz.prog 62 #[.agg #[aU 26,aU d,aU s,.bool r,aU o,aU n]] w fun e w'=>e=.returned (aU (wrong 26 d s r o n))∧Below w.heap.size w w':=by
 exact ak7
theorem aO6(d s:Int)(r:Bool)(o n:Int)(w:World) :
  Calls Tryz.prog 62 #[.agg #[aU 27,aU d,aU s,.bool r,aU o,aU n]] w fun e w'=>e=.returned (aU (wrong 27 d s r o n))∧Below w.heap.size w w':=by
 exact ak7
theorem aO7(d s:Int)(r:Bool)(o n:Int)(w:World) :
  Calls Tryz.prog 62 #[.agg #[aU 28,aU d,aU s,.bool r,aU o,aU n]] w fun e w'=>e=.returned (aU (wrong 28 d s r o n))∧Below w.heap.size w w':=by
 exact ak7
theorem aHX(c d s:Int)(r:Bool)(o n:Int)(w:World) :
  Calls Tryz.prog 71 #[.agg #[aU c,aU d,aU s,.bool r,aU o,aU n]] w fun e w'=>e=.returned (Ya (wrong c d s r o n))∧Below w.heap.size w w':=by
 by_cases h:c<1∨28<c
 ·exact aOP c h d s r o n w
 by_cases h1:c≤12
 ·exact aOQ c ⟨by omega,h1⟩ d s r o n w
 by_cases h2:15≤c∧c≤24
 ·exact aOT c h2 d s r o n w
 have h3:c=13∨c=14∨c=25∨c=26∨c=27∨c=28:=bQ;rcases h3 with rfl|rfl|rfl|rfl|rfl|rfl
 ·exact aOR d s r o n w
 ·exact aOS d s r o n w
 ·exact aOV d s r o n w
 ·exact aOW d s r o n w
 ·exact aOX d s r o n w
 ·exact aOY d s r o n w
theorem aHY(c d s:Int)(r:Bool)(o n:Int)(w:World) :
  Calls Tryz.prog 62 #[.agg #[aU c,aU d,aU s,.bool r,aU o,aU n]] w fun e w'=>e=.returned (aU (wrong c d s r o n))∧Below w.heap.size w w':=by
 by_cases h:c<1∨28<c
 ·exact aOZ c h d s r o n w
 by_cases h1:c≤12
 ·exact aO0 c ⟨by omega,h1⟩ d s r o n w
 by_cases h2:15≤c∧c≤24
 ·exact aO3 c h2 d s r o n w
 have h3:c=13∨c=14∨c=25∨c=26∨c=27∨c=28:=bQ;rcases h3 with rfl|rfl|rfl|rfl|rfl|rfl
 ·exact aO1 d s r o n w
 ·exact aO2 d s r o n w
 ·exact aO4 d s r o n w
 ·exact aO5 d s r o n w
 ·exact aO6 d s r o n w
 ·exact aO7 d s r o n w
end Go.Proofs.YtglilddlhibogaaGreatDoor.W
