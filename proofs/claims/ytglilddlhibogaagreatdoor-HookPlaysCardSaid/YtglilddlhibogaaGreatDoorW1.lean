/- A part of the proof; each theorem states its conditions. -/
import Derived.Test.YtglilddlhibogaaGreatDoorOneVerA
import Derived.Test.YtglilddlhibogaaGreatDoorWalkRefB3
set_option linter.unusedSimpArgs false
set_option linter.unusedVariables false
set_option maxRecDepth 100000
set_option maxHeartbeats 100000000
namespace Go.Proofs.YtglilddlhibogaaGreatDoor.W
open Go.RowKit Go.Proofs.YtglilddlhibogaaGreatDoor.P
def nH(w:World):Prop:=w.cell? ⟨4,0,none⟩=some (aU (-9223372036854775808))∧w.cell? ⟨4,1,none⟩=some (aU 9223372036854775807)
theorem nH.lt{w:World}(h:nH w):4<w.heap.size:=block_lt_of_cell h.1
theorem nH.later{w w':World}(h:nH w)(hb:Below w.heap.size w w'):nH w':=⟨(hb.cell (p:=⟨4,0,none⟩) h.lt).trans h.1,(hb.cell (p:=⟨4,1,none⟩) h.lt).trans h.2⟩
theorem aHp(k:Int)(hk:k=2∨k=3∨k=4)(w:World) :
  Calls Tryz.prog 148 #[.int .u8 (letter k)] w fun e w'=>e=.returned (.agg #[aU (low k),aU (high k)])∧Below w.heap.size w w':=by
 refine fU ?_;intro HW0;rcases hk with rfl|rfl|rfl
 all_goals
  unfold letter low high;simp only[show¬(2:Int)=0 by decide,show¬(2:Int)=1 by decide,show¬(3:Int)=0 by decide,show¬(3:Int)=1 by decide,show¬(3:Int)=2 by decide,show¬(4:Int)=0 by decide,show¬(4:Int)=1 by decide,show¬(4:Int)=2 by decide,show¬(4:Int)=3 by decide,show¬(2:Int)=3 by decide,show¬(2:Int)=4 by decide,show¬(3:Int)=4 by decide,if_true,if_false];go_enter Tryz.func148,Tryz.ntmps148;go_wp2_with fail;refine bodyPost_ret ?_ rfl ⟨rfl,gI⟩;simp[results,Tryz.results148,go_sem]
theorem aHq(k lo hi:Int)(o:Int)(hk:k=0∨k=1∨k=5)(w:World)(hg:nH w) :
  Calls Tryz.prog 106 #[.agg #[.int .u8 (letter k),aU lo,aU hi],aU o] w fun e w'=>e=.returned (.tuple #[.agg #[aU (-9223372036854775808),aU 9223372036854775807],aU (if k=0 then 8 else 1)])∧Below w.heap.size w w':=by
 have gz:=hg.lt;refine fU ?_;intro HW0;obtain⟨hg0,hg1⟩:=hg;have ng:¬4=w.heap.size+1:=bQ;rcases hk with rfl|rfl|rfl
 all_goals
  unfold letter;simp only[show¬(5:Int)=0 by decide,show¬(5:Int)=1 by decide,show¬(5:Int)=2 by decide,show¬(5:Int)=3 by decide,show¬(5:Int)=4 by decide,show¬(1:Int)=0 by decide,if_true,if_false];go_enter Tryz.func106,Tryz.ntmps106;go_wp2_with fail;refine bodyPost_ret (v:=_) ?_ rfl ⟨rfl,gI⟩;simp[results,Tryz.results106,go_sem]
theorem Img.aas{w:World}{b:Nat}{t:TypeId}(h:w.heap[b]?=some (.cells #[aU 0,aU 0] t (0,0))):P.Img w b 2 (fun _=>aU 0):=by
 refine Img.of_cells h iC fun j hj=>?_;rcases j with _|_|j
 ·rfl
 ·rfl
 ·omega
theorem aHr(k lo hi:Int)(o:Int)(hk:k=2∨k=3∨k=4)(hb:P.B.Ok ⟨lo,hi⟩)(ho:In64 o)(w:World)(hg:nH w) :
  Calls Tryz.prog 106 #[.agg #[.int .u8 (letter k),aU lo,aU hi],aU o] w fun e w'=>e=.returned (.tuple #[.agg #[aU (if(iD ⟨k,⟨lo,hi⟩⟩ o).2=0 then(iD ⟨k,⟨lo,hi⟩⟩ o).1 else fP).lo,aU (if(iD ⟨k,⟨lo,hi⟩⟩ o).2=0 then(iD ⟨k,⟨lo,hi⟩⟩ o).1 else fP).hi],aU (iD ⟨k,⟨lo,hi⟩⟩ o).2])∧Below w.heap.size w w':=by
 have gz:=hg.lt;refine fU ?_;intro HW0;have c1:∀ wd dr os,Calls Tryz.prog 73 #[aU o] (Go.Sort.grow (redrawn wd dr) os) fun e w'=>e=.returned (.agg #[aU o,aU o])∧XH (Go.Sort.grow (redrawn wd dr) os) w':=fun wd dr os=>VW o _;have c3:∀ wd dr os,Calls Tryz.prog 148 #[.int .u8 (letter k)] (Go.Sort.grow (redrawn wd dr) os) fun e w'=>e=.returned (.agg #[aU (low k),aU (high k)])∧XH (Go.Sort.grow (redrawn wd dr) os) w':=fun wd dr os=>aHp k hk _;have c2:∀ wd dr os,nH wd→Calls Tryz.prog 147 #[aU 2,.agg #[aU lo,aU hi],.agg #[aU o,aU o]] (Go.Sort.grow (redrawn wd dr) os) fun e w'=>e=.returned (.agg #[aU (dV 2 ⟨lo,hi⟩ (eH o)).lo,aU (dV 2 ⟨lo,hi⟩ (eH o)).hi])∧XH (Go.Sort.grow (redrawn wd dr) os) w':=fun wd dr os h=>ams 2 lo hi o o hb.1 hb.2.1 ho ho hb.2.2 (Int.le_refl _) _ (h.later (below_regrown wd dr os)).1 (h.later (below_regrown wd dr os)).2 (h.later (below_regrown wd dr os)).lt;refine ayy ?_;intro hv;obtain⟨R,hR⟩:∃ R,iD ⟨k,⟨lo,hi⟩⟩ o=R:=⟨_,rfl⟩;rw[hR];rw[hR]at hv;generalize dV 2 ⟨lo,hi⟩ (eH o)=d at *;obtain⟨dl,dh⟩:=d;simp only at c2 hv;have HV:=bW hv;have C1:=bW c1;have C2:=bW c2;have C3:=bW c3;have hl:letter k=116∨letter k=102∨letter k=99:=by rcases hk with rfl|rfl|rfl<;>simp[letter]
 generalize letter k=lt at *;have t0:(lt==0)=false:=lW;have t1:(lt==110)=false:=lW;have t5:(lt==109)=false:=lW;generalize low k=L at *;generalize high k=H at *;have HG:=bW hg;clear c1 c2 c3 ho hb hk hl hv hR hg;go_enter Tryz.func106,Tryz.ntmps106;go_wp2_with fail;generalize hW:World.alloc (World.alloc w _) _=wd;have f0:wd.cell? ⟨w.heap.size,0,none⟩=some (.int .u8 lt):=qY;have f1:wd.cell? ⟨w.heap.size,1,none⟩=some (aU lo):=qY;have f2:wd.cell? ⟨w.heap.size,2,none⟩=some (aU hi):=qY;have IR:P.Img wd (w.heap.size+1) 2 (fun _=>aU 0):=by
  rw[←hW];exact Img.aas (t:=127) al8
 have HB1:=bW (show Below w.heap.size w wd from hW▸gI);have zd:w.heap.size+1<wd.heap.size:=OC;have Y9:=bW (HG.out.later HB1.out);have HIR:=bW IR;clear hW HG IR;have k0:=cell_regrown f0;have k1:=cell_regrown f1;have k2:=cell_regrown f2;refine ayz 10 8 9 6 7 127 127 (.cells #[aU 0,aU 0] 127 (0,0)) (.cells #[aU 0,aU 0] 127 (0,0)) dF dF dF dF dF dF dF dF dS (fun _=>rfl) (fun w=>by kernel_rfl) (fun w=>by kernel_rfl) ?_
 (repeat (first|refine asY iC ?_|(refine asZ iC (fun K hK=>?_);go_simp;first|(refine hK _ ?_;clear hK K)|(apply Exists.intro;refine⟨fun _=>?_,hK _ ?_⟩;(first|exact C1.out _ _ _|exact C3.out _ _ _|exact C2.out _ _ _ Y9.out);clear hK K))))
 refine as1 ?_;intro A B wq hbq hA hzA hB Gt hAB;have IA:=Img.aas hzA;have IB:=Img.aas Gt;have a0:=IA.cell 0 bQ;have a1:=IA.cell 1 bQ;have b0:=IB.cell 0 bQ;have b1:=IB.cell 1 bQ;have r0:=IA.free 0 bQ;have r1:=IA.free 1 bQ;have s0:=IB.free 0 bQ;have s1:=IB.free 1 bQ;have Yr:=HIR.out.later hbq zd;have q0:=Yr.cell 0 bQ;have q1:=Yr.cell 1 bQ;have p0:=Yr.free 0 bQ;have p1:=Yr.free 1 bQ;have hgq:=Y9.out.later hbq;have gzq:=hgq.lt;obtain⟨hg0,hg1⟩:=hgq;have HW1:=bW (HB1.out.trans (hbq.mono bQ));have nAB:¬A=B:=hAB;have nBA:¬B=A:=Ne.symm hAB;have n1:¬A=w.heap.size+1:=bQ;have n2:¬B=w.heap.size+1:=bQ;have n3:¬w.heap.size+1=A:=bQ;have n4:¬w.heap.size+1=B:=bQ;have n5:¬4=A:=bQ;have n6:¬4=B:=bQ;have n7:¬A=4:=bQ;have n8:¬B=4:=bQ;have mA:w.heap.size≤A:=bQ;have mB:w.heap.size≤B:=bQ;clear IA IB Yr hbq hzA Gt hAB k0 k1 k2 f0 f1 f2;by_cases h1:dl<L
 ·have hR2:=HV.out;rw[dB (.inl h1)]at hR2;exact ayA
 ·by_cases h2:H<dh
  ·have hR2:=HV.out;rw[dB (.inr h2)]at hR2;exact ayA
  ·have hR2:=HV.out;rw[dw bQ]at hR2;subst hR2;go_wp2_with fail;refine bodyPost_ret (v:=.tuple #[.agg #[aU dl,aU dh],aU 0]) ?_ rfl ⟨rfl,jZ⟩;simp[results,Tryz.results106,go_sem, *]
def Ur(a:Wh)(o:Int):P.B × Int:=(if(iD a o).2=0 then(iD a o).1 else fP,(iD a o).2)
theorem apk(a:Wh)(o:Int)(ha:iL a)(ho:In64 o)(w:World)(hg:nH w) :
  Calls Tryz.prog 106 #[.agg #[.int .u8 (letter a.kind),aU a.b.lo,aU a.b.hi],aU o] w fun e w'=>e=.returned (.tuple #[.agg #[aU (Ur a o).1.lo,aU (Ur a o).1.hi],aU (Ur a o).2])∧Below w.heap.size w w':=by
 obtain⟨k,⟨lo,hi⟩⟩:=a;obtain⟨hk,hb⟩:=ha;simp only at hk hb;by_cases h:k=0∨k=1∨k=5
 ·refine(aHq k lo hi o h w hg).mono fun e w' he=>?_;have e1:Ur ⟨k,⟨lo,hi⟩⟩ o=(fP,if k=0 then 8 else 1):=by
   have ev:iD ⟨k,⟨lo,hi⟩⟩ o=(kK,if k=0 then 8 else 1):=by
    exact ayB
   unfold Ur;rw[ev];simp only;rw[dw (by split<;>decide)]
  rw[e1];exact he
 ·exact aHr k lo hi o bQ hb ho w hg
end Go.Proofs.YtglilddlhibogaaGreatDoor.W
