/- A part of the proof; each theorem states its conditions. -/
import Derived.Test.YtglilddlhibogaaGreatDoorHookCells
set_option linter.unusedSimpArgs false
set_option linter.unusedVariables false
set_option maxRecDepth 100000
set_option maxHeartbeats 100000000
namespace Go.Proofs.YtglilddlhibogaaGreatDoor.W
open Go.RowKit Go.Proofs.YtglilddlhibogaaGreatDoor.P
theorem aLL{w:World}{v:Value}{e p:Int}(h:rC w v e p)(hne:e≠0):v=.iface 30 (aU e)∨∃ b:Nat,v=.iface 119 (.pointer (some ⟨b,0,none⟩)):=by
 rcases h with ⟨_,h0,_⟩|⟨_,hv,_⟩|⟨_,b,hv,_⟩
 ·exact absurd h0 hne
 ·exact .inl hv
 ·exact .inr ⟨b,hv⟩
theorem aC2{w:World}{c:HC}{v:Value}{pl:List (HP × Value)}(hc:uP w c v pl)(D o:Nat)(c0:w.cell? ⟨D,o,none⟩=some v)(hD:v.ownBlock≠some D)(told:Nat→Int)(time:Int)(hg:vY w)(hge:v.ownBlock≠some 5) :
  Calls Tryz.prog 30 #[.pointer (some ⟨D,o,none⟩),.agg (t8 told).toArray,aU time] w fun e w'=>∃ out jQ,e=.returned (.agg #[aU (hrun told time c.l .zero).2.oW,aU (hrun told time c.l .zero).2.num,out,aU (hrun told time c.l .zero).2.steps]) ∧
   w'.ownsRow w.heap.size 2 1 out (hrun told time c.l .zero).2.out.length ((hrun told time c.l .zero).2.out.map (Value.int .i64))∧uP w' ⟨(hrun told time c.l .zero).1,c.next⟩ v jQ∧dQ (fun b=>v.ownBlock=some b) w w':=by
 obtain⟨og,cap,hv⟩:=avp hc;subst hv;generalize hn:pl.length=n at c0 hD hc ⊢;have hDl:D<w.heap.size:=block_lt_of_cell c0;unfold t8;have uw:=bW hc;have HG:=bW hg;have HN:=bW hn;clear hc hg hn;go_enter Tryz.func30,Tryz.ntmps30;go_upto_region 2 with fail;refine az2 ?_;intro w1 hW hb1 hs1 IT IR IS;have YW:=bW c0;have c01:=(hb1.cell (p:=⟨D,o,none⟩) hDl).trans c0;have HF1:=bW (dQ.of hb1 (M:=fun b=>(Value.slice og n cap).ownBlock=some b));have hrow1:=ED uw.out.row hb1;rw[HN.out]at hrow1;have au3:=bW (show TP w w1 c told time n (.slice og n cap) 0 [] .zero (.slice none 0 0) pl w1 from
  ⟨Nat.zero_le _,rfl,rfl,by simp,by simpa using uw.out.l,rfl,hrow1,uw.out.code,IS,World.ownsRow_nil _ _ _ _,Nat.le_refl _,by unfold Sd.zero;simp,IT,IR,HF1.out,Nat.le_refl _⟩)
 clear hW IT IR IS c0 hb1 hrow1;go_wp2_with fail;go_loopw [17] (fun y wr=>∃ (i:Nat) (pre:List HP) (s:Sd) (out:Value) (jQ:List (HP × Value)),y=aU i∧TP w w1 c told time n (.slice og n cap) i pre s out jQ wr) (fun y _=>n-(intOf y).toNat)
 case atStart=>exact⟨0,[],.zero,_,_,rfl,au3.out⟩
 case round =>
  obtain⟨i,pre,s,out,jQ,rfl,hI⟩:=hrel;have HI:=bW hI;have hin:=hI.le;clear hI;by_cases h:i<n
  ·have hk1:(i:Int)<n:=bQ;have hpl:jQ.length=n:=by have:=HI.out.row.1;rw[adl]at this;omega
   obtain⟨x,hx⟩:∃ x,jQ[i]?=some x:=⟨_,List.getElem?_eq_getElem bQ⟩;obtain⟨g,rfl⟩:∃ g,og=some ⟨g,0,none⟩:=by
    rcases HI.out.row.2 with ⟨h0,h1⟩|⟨g,cap',cur,h0,_⟩
    ·omega
    ·exact aj9
   have hr:=adh HI.out.row hx;obtain⟨xp,xv⟩:=x;obtain⟨Ey,cn,Ez,hxv⟩:=avm (HI.out.aDc (kD uw.out.row) _ (List.mem_of_getElem? hx));simp only at hxv;subst hxv;have q2:wr.cell? ⟨g,i*19+2,none⟩=some (.slice Ey cn Ez):=hr 2 _ rfl;have hDr:wr.cell? ⟨D,o,none⟩=some (.slice (some ⟨g,0,none⟩) n cap):=HI.out.fG.cell YW.out hD;go_upto_region 6 with fail;obtain⟨rfl,hcc,hprog⟩:=aLr (HI.out.aDc (kD uw.out.row) _ (List.mem_of_getElem? hx));have hwr:w.heap.size+3≤wr.heap.size:=by have:=HI.out.later;omega
   have zT:w.heap.size<wr.heap.size:=bQ;have zg:g<wr.heap.size:=(HI.out.row.lt g rfl).2;have n3:¬w.heap.size=wr.heap.size:=bQ;have n4:¬g=wr.heap.size:=bQ;have RUN:=fun W (hb:Below wr.heap.size wr W)=>aH6 Ey xp.code.length Ez (nth xp.code) hcc told xp.cells time W (hprog.later hb) ((HI.out.aLt HG.out hge).later hb);rw[aB5]at RUN;obtain⟨R,hR⟩:∃ R,Qq (nth xp.code) xp.code.length told xp.cells time=R:=⟨_,rfl⟩;rw[hR]at RUN;unfold ajt aju at RUN;rcases R with ⟨er,ep⟩|⟨M,num,st⟩
   ·have wV:=bW RUN;have HRR:=bW hR;clear RUN hR;go_upto_region 6 with fail;go_cut [10,11] (fun y e W=>(∃ m:Nat,y=.pointer (some ⟨m,0,none⟩)∧wr.heap.size≤m)∧(e=.iface 30 (aU er)∨∃ b:Nat,e=.iface 119 (.pointer (some ⟨b,0,none⟩)))∧Below wr.heap.size wr W)
    case first =>
     go_region_held3 (fun W=>W.cell? ⟨w.heap.size,0,none⟩=some (aU (told 0))∧W.cell? ⟨w.heap.size,1,none⟩=some (aU (told 1))∧W.cell? ⟨w.heap.size,2,none⟩=some (aU (told 2))∧W.cell? ⟨w.heap.size,3,none⟩=some (aU (told 3))∧W.cell? ⟨w.heap.size,4,none⟩=some (aU (told 4))∧W.cell? ⟨w.heap.size,5,none⟩=some (aU (told 5))∧W.cell? ⟨w.heap.size,6,none⟩=some (aU (told 6))∧W.cell? ⟨w.heap.size,7,none⟩=some (aU (told 7)) ∧
      W.cell? ⟨g,i*19+2,none⟩=some (.slice Ey xp.code.length Ez)∧W.cell? ⟨g,i*19+3,none⟩=some (aU (xp.cells 0))∧W.cell? ⟨g,i*19+3+1,none⟩=some (aU (xp.cells 1))∧W.cell? ⟨g,i*19+3+2,none⟩=some (aU (xp.cells 2))∧W.cell? ⟨g,i*19+3+3,none⟩=some (aU (xp.cells 3))∧W.cell? ⟨g,i*19+3+4,none⟩=some (aU (xp.cells 4))∧W.cell? ⟨g,i*19+3+5,none⟩=some (aU (xp.cells 5))∧W.cell? ⟨g,i*19+3+6,none⟩=some (aU (xp.cells 6))∧W.cell? ⟨g,i*19+3+7,none⟩=some (aU (xp.cells 7)) ∧
      W.cell? ⟨g,i*19+3+8,none⟩=some (aU (xp.cells 8))∧W.cell? ⟨g,i*19+3+9,none⟩=some (aU (xp.cells 9))∧W.cell? ⟨g,i*19+3+10,none⟩=some (aU (xp.cells 10))∧W.cell? ⟨g,i*19+3+11,none⟩=some (aU (xp.cells 11))∧W.cell? ⟨g,i*19+3+12,none⟩=some (aU (xp.cells 12))∧W.cell? ⟨g,i*19+3+13,none⟩=some (aU (xp.cells 13))∧W.cell? ⟨g,i*19+3+14,none⟩=some (aU (xp.cells 14))∧W.cell? ⟨g,i*19+3+15,none⟩=some (aU (xp.cells 15)))
      (first|exact X7 HI.out.told hr|exact X7 (HI.out.told.alloc _) (ach hr)|exact X7 ZG.out Ij.out|exact X7 (ZG.out.alloc _) (ach Ij.out)|exact X7 (QC (ZG.out.alloc _) n1) (World.rangeAt_setCells_apart (ach Ij.out) _ _ _ (.inl n2))|exact X7 (QC ZG.out n3) (World.rangeAt_setCells_apart Ij.out _ _ _ (.inl n4)))
      (first
       |(go_at_call 52;refine(wV.out _ ?_).mono ?_;(repeat' (first|with_reducible exact Below.refl _ _|with_reducible refine Below.drew ?_|with_reducible refine Below.alloc ?_ ?_ _|(simp;done)|omega));rintro e w5 ⟨⟨v5,er5,rfl,Oj⟩,hb5⟩;obtain⟨hv5,aDu,hne5⟩:=Oj;have HE5:=bW (aLL aDu hne5);clear aDu hne5;obtain⟨arr,rfl,harr⟩:∃ arr:Array Value,v5=.agg arr∧arr.toList=YF 0 (fun _=>0) (.slice none 0 0) 0:=⟨_,hv5,rfl⟩;have EX:=bW harr;have hsz:arr.size=19:=ant;have hone:∀ v∈arr.toList,v.oneCell'=true:=auL;have aC3:=WJ (P:=Tryz.prog) (w:=w5.alloc (.cells #[aU 0,aU 0,aU 0,aU 0,aU 0,aU 0,aU 0,aU 0,aU 0,aU 0,aU 0,aU 0,aU 0,aU 0,aU 0,aU 0,aU 0,.slice none 0 0,aU 0] 144)) (b:=w5.heap.size) (arr:=arr) aql hone;clear harr hv5;(have hb:Below wr.heap.size wr w5:=Below.trans am7 (hb5.mono anr));have yg:=bW hb;have ZG:=bW (HI.out.told.later hb zT);have Ij:=bW (an7 hr hb zg);(try have EI:=bW (ars (avt (w:=wr) (t:=144) (c:=#[aU 0,aU 0,aU 0,aU 0,aU 0,aU 0,aU 0,aU 0,aU 0,aU 0,aU 0,aU 0,aU 0,aU 0,aU 0,aU 0,aU 0,.slice none 0 0,aU 0]) (n:=19) rfl) hb5 dY);have aC4:=WJ (P:=Tryz.prog) (w:=w5) (b:=wr.heap.size) (arr:=arr) (by rw[hsz];exact EI.out) hone;have Ze:=bW (show Typed w5 wr.heap.size 144 from⟨_,(hb5.block wr.heap.size dY).trans (heap_alloc_new wr _)⟩));have n1:¬w.heap.size=w5.heap.size:=anw;have n2:¬g=w5.heap.size:=anw;clear hb5 hb))
     ·go_wp2_with fail;go_meet
      go_light;refine⟨⟨w5.heap.size,rfl,yg.out.size⟩,HE5.out,?_⟩;exact aAJ
     ·go_wp2_with fail;go_meet
      go_light;refine⟨⟨wr.heap.size,rfl,Nat.le_refl _⟩,HE5.out,?_⟩;exact aA5
    case rest =>
     obtain⟨⟨m,rfl,hm⟩,herr,KU⟩:=hcut;obtain⟨wx,hwx⟩:∃ x,x=wc:=⟨_,rfl⟩;subst hwx;have Gx:=HI.out.run;rw[HI.out.split hx]at Gx;simp only[hrun]at Gx;rw[HRR.out]at Gx;have hl0:=HI.out.l;rw[HI.out.split hx]at hl0;have hst:=HI.out.steps;have hfw:=HI.out.few;have hlt:=HI.out.later;have hzx:=KU.size;have Hf:=bW (show TP w w1 c told time n (.slice (some ⟨g,0,none⟩) n cap) (i+1) (pre++[xp]) s out jQ wx from
      ⟨by omega,HI.out.oW,HI.out.num,by simpa[List.append_assoc]using Gx,by simpa[List.append_assoc]using hl0,by simp[HI.out.akM],ED HI.out.row KU,HI.out.code,HI.out.said.later KU bQ,ED HI.out.out KU,by omega,⟨hst.1,by omega⟩,
       HI.out.told.later KU bQ,HI.out.res.later KU bQ,HI.out.fG.trans (dQ.of KU),by omega⟩)
     clear Gx hl0 KU;have hs8:n≤8:=by have:=uw.out.short;have:=HN.out;omega
     rcases herr with rfl|⟨eb,rfl⟩
     ·exact avA
     ·exact avA
   ·have wV:=bW RUN;have HRR:=bW hR;clear RUN hR;go_upto_region 6 with fail;go_cut [10,11] (fun y e W=>∃ (m:Nat) (yG:Option Addr) (cap5:Nat),y=.pointer (some ⟨m,0,none⟩)∧e=.nilIface∧wr.heap.size≤m∧P.Img W m 19 (fun j=>(YF num M.cells (.slice yG M.out.length cap5) st).getD j undef)∧Below wr.heap.size wr W∧∃ B,W.ownsRow B 2 1 (.slice yG M.out.length cap5) M.out.length (M.out.map (Value.int .i64)))
    case first =>
     go_region_held3 (fun W=>W.cell? ⟨w.heap.size,0,none⟩=some (aU (told 0))∧W.cell? ⟨w.heap.size,1,none⟩=some (aU (told 1))∧W.cell? ⟨w.heap.size,2,none⟩=some (aU (told 2))∧W.cell? ⟨w.heap.size,3,none⟩=some (aU (told 3))∧W.cell? ⟨w.heap.size,4,none⟩=some (aU (told 4))∧W.cell? ⟨w.heap.size,5,none⟩=some (aU (told 5))∧W.cell? ⟨w.heap.size,6,none⟩=some (aU (told 6))∧W.cell? ⟨w.heap.size,7,none⟩=some (aU (told 7)) ∧
      W.cell? ⟨g,i*19+2,none⟩=some (.slice Ey xp.code.length Ez)∧W.cell? ⟨g,i*19+3,none⟩=some (aU (xp.cells 0))∧W.cell? ⟨g,i*19+3+1,none⟩=some (aU (xp.cells 1))∧W.cell? ⟨g,i*19+3+2,none⟩=some (aU (xp.cells 2))∧W.cell? ⟨g,i*19+3+3,none⟩=some (aU (xp.cells 3))∧W.cell? ⟨g,i*19+3+4,none⟩=some (aU (xp.cells 4))∧W.cell? ⟨g,i*19+3+5,none⟩=some (aU (xp.cells 5))∧W.cell? ⟨g,i*19+3+6,none⟩=some (aU (xp.cells 6))∧W.cell? ⟨g,i*19+3+7,none⟩=some (aU (xp.cells 7)) ∧
      W.cell? ⟨g,i*19+3+8,none⟩=some (aU (xp.cells 8))∧W.cell? ⟨g,i*19+3+9,none⟩=some (aU (xp.cells 9))∧W.cell? ⟨g,i*19+3+10,none⟩=some (aU (xp.cells 10))∧W.cell? ⟨g,i*19+3+11,none⟩=some (aU (xp.cells 11))∧W.cell? ⟨g,i*19+3+12,none⟩=some (aU (xp.cells 12))∧W.cell? ⟨g,i*19+3+13,none⟩=some (aU (xp.cells 13))∧W.cell? ⟨g,i*19+3+14,none⟩=some (aU (xp.cells 14))∧W.cell? ⟨g,i*19+3+15,none⟩=some (aU (xp.cells 15)))
      (first|exact X7 HI.out.told hr|exact X7 (HI.out.told.alloc _) (ach hr)|exact X7 ZG.out Ij.out|exact X7 (ZG.out.alloc _) (ach Ij.out)|exact X7 (QC (ZG.out.alloc _) n1) (World.rangeAt_setCells_apart (ach Ij.out) _ _ _ (.inl n2))|exact X7 (QC ZG.out n3) (World.rangeAt_setCells_apart Ij.out _ _ _ (.inl n4)))
      (first
       |(go_at_call 52;refine(wV.out _ ?_).mono ?_;(repeat' (first|with_reducible exact Below.refl _ _|with_reducible refine Below.drew ?_|with_reducible refine Below.alloc ?_ ?_ _|(simp;done)|omega));rintro e w5 ⟨⟨v5,er5,rfl,Oj⟩,hb5⟩;obtain⟨ro,hv5,rfl,B0,vZ⟩:=Oj;obtain⟨yG,cap5,rfl⟩:=pI vZ;obtain⟨arr,rfl,harr⟩:∃ arr:Array Value,v5=.agg arr∧arr.toList=YF num M.cells (.slice yG M.out.length cap5) st:=⟨_,hv5,rfl⟩;have EX:=bW harr;have hsz:arr.size=19:=ant;have hone:∀ v∈arr.toList,v.oneCell'=true:=auL;have aC3:=WJ (P:=Tryz.prog) (w:=w5.alloc (.cells #[aU 0,aU 0,aU 0,aU 0,aU 0,aU 0,aU 0,aU 0,aU 0,aU 0,aU 0,aU 0,aU 0,aU 0,aU 0,aU 0,aU 0,.slice none 0 0,aU 0] 144)) (b:=w5.heap.size) (arr:=arr) aql hone;clear harr hv5;(have hb:Below wr.heap.size wr w5:=Below.trans am7 (hb5.mono anr));have yg:=bW hb;have ZG:=bW (HI.out.told.later hb zT);have Ij:=bW (an7 hr hb zg);have yj:=bW vZ;(try have EI:=bW (ars (avt (w:=wr) (t:=144) (c:=#[aU 0,aU 0,aU 0,aU 0,aU 0,aU 0,aU 0,aU 0,aU 0,aU 0,aU 0,aU 0,aU 0,aU 0,aU 0,aU 0,aU 0,.slice none 0 0,aU 0]) (n:=19) rfl) hb5 dY);have aC4:=WJ (P:=Tryz.prog) (w:=w5) (b:=wr.heap.size) (arr:=arr) (by rw[hsz];exact EI.out) hone;have Ze:=bW (show Typed w5 wr.heap.size 144 from⟨_,(hb5.block wr.heap.size dY).trans (heap_alloc_new wr _)⟩));have n1:¬w.heap.size=w5.heap.size:=anw;have n2:¬g=w5.heap.size:=anw;clear hb5 hb vZ))
     ·go_wp2_with fail;go_meet
      go_light;refine⟨w5.heap.size,yG,cap5,rfl,rfl,yg.out.size,?_,?_,B0,?_⟩
      ·have:=agY (w:=w5.alloc (.cells #[aU 0,aU 0,aU 0,aU 0,aU 0,aU 0,aU 0,aU 0,aU 0,aU 0,aU 0,aU 0,aU 0,aU 0,aU 0,aU 0,aU 0,.slice none 0 0,aU 0] 144)) (b:=w5.heap.size) (vs:=arr.toList) (by rw[EX.out];exact afY rfl);exact aqs
      ·exact aAJ
      ·exact(DY w5.heap.size arr.toList 0 _).row (yj.out.alloc _) fun b hb e=>by have:=(yj.out.lt b hb).2;omega
     ·go_wp2_with fail;go_meet
      go_light;refine⟨wr.heap.size,yG,cap5,rfl,rfl,Nat.le_refl _,?_,?_,B0,?_⟩
      ·have:=agY (w:=w5) (b:=wr.heap.size) (vs:=arr.toList) (by rw[EX.out];exact EI.out);exact aqs
      ·exact aA5
      ·exact(DY wr.heap.size arr.toList 0 w5).row yj.out fun b hb e=>((kD yj.out b hb).ne Ze.out dS) e
    case rest =>
     obtain⟨m,yG,cap5,rfl,rfl,hm,IM,KU,B0,vZ⟩:=hcut;obtain⟨wx,hwx⟩:∃ x,x=wc:=⟨_,rfl⟩;subst hwx;refine aBb ?_;intro m0 m17 m18;have hrg:wx.rangeAt m 1 (lV M.cells):=fun j v hv=>by
      exact aAQ
     have hzx:=KU.size;have zgx:g<wx.heap.size:=bQ;have YH:=bW hrg;have avC:=bW (ED HI.out.row KU);have aLM:=bW (aLs avC.out hx);have ZH:=bW KU;have LM:=bW IM;have Ij:=bW vZ;have au5:=aB7 (P:=Tryz.prog) (w:=wx) (b:=g) (o:=i*19+3) (vs:=lV M.cells) aLM.out (aqz _);clear hrg KU IM vZ;go_upto_region 9 with (first
      |(with_reducible refine wpList_load_row iV 55 (.tmp 43) rfl m 1 iV (lV M.cells) _ YH.out Tryz.underlying55 rfl (anG _) ?_))
     clear au5;have zg0:g<w.heap.size:=(uw.out.row.lt g rfl).2;have hs8:n≤8:=by have:=uw.out.short;have:=HN.out;omega
     have aDv:=bW (aLp avC.out hx M.cells);have agd:=bW (QC (g:=g) (o:=i*19+3) (vs:=lV M.cells) (HI.out.said.later ZH.out bQ) bQ);have agf:=bW (QC (g:=g) (o:=i*19+3) (vs:=lV M.cells) LM.out bQ);have anP:=bW (ED HI.out.out ZH.out);have X3:=bW ((DY g (lV M.cells) (i*19+3) wx).row anP.out fun b hb e=>by have:=(anP.out.lt b hb).1;omega);have anQ:=bW ((DY g (lV M.cells) (i*19+3) wx).row Ij.out fun b hb e=>((kD Ij.out b hb).ne (kD avC.out g rfl) dS) e);have HFy:=bW (show dQ (fun b=>b=g∨b=w.heap.size+1+1∨out.ownBlock=some b) wr (wx.setCells g (i*19+3) (lV M.cells))from(dQ.of ZH.out).trans ((DY g (lV M.cells) (i*19+3) wx).mono fun k _ e=>.inl e));generalize wx.setCells g (i*19+3) (lV M.cells)=wy at aDv agd agf X3 anQ HFy ⊢;have hst:=au7 HRR.out;have hfew:=aB8 HRR.out;have hf2:=HI.out.few;have hs2:=HI.out.steps;have hzy:=HFy.out.size;have hlat:=HI.out.later;obtain⟨v9,w9,hap,af0,anR⟩:=aB9 w1.heap.size out s.out.length _ _ B0 M.out.length _ wy bQ X3.out anQ.out (aCa _) bQ;obtain⟨KD,JK,rfl⟩:=pI af0;have hsn:¬out.ownBlock=some (w.heap.size+1+1):=fun e=>by have:=(X3.out.lt _ e).1;omega
     have y2:wy.cell? ⟨w.heap.size+1+1,2,none⟩=some out:=agd.out.cell 2 bQ;have ym:wy.cell? ⟨m,17,none⟩=some (.slice yG M.out.length cap5):=agf.out.cell 17 bQ;have hmn:¬out.ownBlock=some m:=fun e=>by have:=(kD X3.out m e);have:=(HI.out.out.lt m e).2;omega
     have YI:=bW (dQ.grown anR (M:=fun b=>out.ownBlock=some b) fun k e=>e);have Vj:=YI.out.img agd.out bQ hsn;have IM9:=YI.out.img agf.out bQ hmn;have z2:=Vj.cell 2 bQ;have f2:=Vj.free 2 bQ;have z3:=Vj.cell 3 bQ;have f3:=Vj.free 3 bQ;have m0':w9.cell? ⟨m,0,none⟩=some (aU num):=IM9.cell 0 bQ;have au8:w9.cell? ⟨m,18,none⟩=some (aU st):=IM9.cell 18 bQ;have hmS:¬m=w.heap.size+1+1:=bQ;go_upto_region 10 with (at_builtin;refine akB _ rfl _ _ 94 94 rfl _ _ rfl rfl hap ?_)
     clear hap;have hw1:-9223372036854775808≤s.steps+st:=bQ;have hw2:s.steps+st≤9223372036854775807:=bQ;go_upto_region 11 with fail;have hF3:=HFy.out.trans (YI.out.mono (M':=fun b=>b=g∨b=w.heap.size+1+1∨out.ownBlock=some b) fun k _ e=>.inr (.inr e));refine aAi ?_;intro U4;have QE:=bW (((Vj.set (j:=2) bQ (.slice KD (s.out.length+M.out.length) JK)).set (j:=3) bQ (aU (s.steps+st))).congr (I':=fun j=>([aU 0,aU 0,.slice KD (s.out.length+M.out.length) JK,aU (s.steps+st)]:List Value).getD j undef) (by
      intro j hj
      have hj':j=0∨j=1∨j=2∨j=3:=bQ
      rcases hj' with rfl|rfl|rfl|rfl<;>rfl))
     have HFq:=bW (hF3.trans (U4.mono (M':=fun b=>b=g∨b=w.heap.size+1+1∨out.ownBlock=some b) fun k _ e=>.inr (.inl e)));have HFs:=bW U4;have aDw:=bW ((YI.out.mono (M':=fun b=>b=w.heap.size+1+1∨out.ownBlock=some b) fun k _ e=>.inr e).trans (U4.mono fun k _ e=>.inl e));generalize (w9.setCell ⟨w.heap.size+1+1,2,none⟩ (.slice KD (s.out.length+M.out.length) JK)).setCell ⟨w.heap.size+1+1,3,none⟩ (aU (s.steps+st))=wq at U4 HFs aDw HFq QE ⊢;have avD:=bW (aDw.out.row aDv.out fun b hb e=>by
      obtain rfl:g=b:=by simpa[Value.ownBlock]using hb
      rcases e with (e:g=w.heap.size+1+1)|(e:out.ownBlock=some g)
      ·omega
      ·have:=(X3.out.lt _ e).1;omega)
     refine aBu ?_;intro aa3 m0q;clear hF3 U4 z2 f2 z3 f3 m0' au8 Vj IM9 y2 ym anR af0 m0 m17 m18;have JD:∀ k,k<w.heap.size→(k=g∨k=w.heap.size+1+1∨out.ownBlock=some k)→(Value.slice (some ⟨g,0,none⟩) n cap).ownBlock=some k:=fun k hk e=>by
      rcases e with rfl|e|e
      ·rfl
      ·omega
      ·have:=(X3.out.lt _ e).1;omega
     have hfr:dQ (fun b=>(Value.slice (some ⟨g,0,none⟩) n cap).ownBlock=some b) w wq :=
      ((HI.out.fG.mono (M':=fun b=>(Value.slice (some ⟨g,0,none⟩) n cap).ownBlock=some b∨(b=g∨b=w.heap.size+1+1∨out.ownBlock=some b)) fun k _ e=>.inl e).trans (HFq.out.mono fun k _ e=>.inr e)).mono fun k hk e=>e.elim id (JD k hk)
     have hzq:=HFq.out.size;have hlow:∀ k,k<w1.heap.size→k≠g→k≠w.heap.size+1+1→¬(k=g∨k=w.heap.size+1+1∨out.ownBlock=some k):=fun k hk h1 h2 e=>by
      rcases e with e|e|e
      ·exact h1 e
      ·exact h2 e
      ·have:=(X3.out.lt _ e).1;omega
     have Gx:=HI.out.run;rw[HI.out.split hx]at Gx;simp only[hrun]at Gx;rw[HRR.out]at Gx;have hls:=HI.out.aLv hx ({ xp with cells:=M.cells},.slice Ey xp.code.length Ez);have hcs:=HI.out.aLw hx M.cells;have arv:=HFq.out.img HI.out.res bQ (hlow _ bQ bQ bQ);by_cases h0:num=0
     ·have Hf:=bW (show TP w w1 c told time n (.slice (some ⟨g,0,none⟩) n cap) (i+1) (pre++[{ xp with cells:=M.cells}]) ⟨s.oW,s.num,s.steps+st,s.out++M.out⟩ (.slice KD (s.out.length+M.out.length) JK) (jQ.set i ({ xp with cells:=M.cells},.slice Ey xp.code.length Ez)) wq from
       ⟨by omega,HI.out.oW,HI.out.num,by simpa[h0,List.append_assoc]using Gx,by simpa[List.append_assoc]using hls,by simp[HI.out.akM],avD.out,hcs,QE.out,by simpa using aa3.out,by simp;omega,by
        constructor
        ·show 0≤s.steps+st;omega
        ·show s.steps+st≤200*((i+1:Nat):Int);omega,HFq.out.img HI.out.told bQ (hlow _ bQ bQ bQ),arv,hfr,by omega⟩)
      clear Gx hls hcs arv hfr JD hlow;exact avA
     ·have aLN:=bW Gx;have HLS:=bW hls;have HCS:=bW hcs;have Qs:=bW arv;have Gu:=bW hfr;clear Gx hls hcs arv hfr JD hlow;go_upto_region 12 with fail;have hxq:(jQ.set i (({ xp with cells:=M.cells}:HP),Value.slice Ey xp.code.length Ez))[i]?=some ({ xp with cells:=M.cells},.slice Ey xp.code.length Ez):=by
       rw[List.getElem?_set_self bQ]
      have q0:wq.cell? ⟨g,i*19,none⟩=some (aU xp.id):=adh avD.out hxq 0 _ rfl;have s0:=QE.out.cell 0 bQ;have s1:=QE.out.cell 1 bQ;have t0:=QE.out.free 0 bQ;have t1:=QE.out.free 1 bQ;have hgS:¬g=w.heap.size+1+1:=bQ;go_cut [8] (fun _ W=>P.Img W (w.heap.size+1+1) 4 (fun j=>([aU xp.id,aU num,.slice KD (s.out.length+M.out.length) JK,aU (s.steps+st)]:List Value).getD j undef)∧dQ (fun b=>b=w.heap.size+1+1) wq W)
      case first =>
       go_region;go_wp2_with fail;go_meet
       go_light;refine⟨?_,rfl,rfl,rfl,by simp,fun b _ hb=>(Below.heap_setCell _ _ _ _ hb).trans (Below.heap_setCell _ _ _ _ hb)⟩;exact Img.drew (((QE.out.set (j:=0) bQ (aU xp.id)).set (j:=1) bQ (aU num)).congr fun j hj=>by
        have hj':j=0∨j=1∨j=2∨j=3:=bQ
        rcases hj' with rfl|rfl|rfl|rfl<;>rfl)
      case rest =>
       obtain⟨IW,FW⟩:=hcut;obtain⟨wz,hwz⟩:∃ x,x=wc:=⟨_,rfl⟩;subst hwz;have aah:=FW.img Qs.out bQ (fun(e:w.heap.size+1=w.heap.size+1+1)=>by omega);have k0:=IW.cell 0 bQ;have k1:=IW.cell 1 bQ;have k2:=IW.cell 2 bQ;have k3:=IW.cell 3 bQ;have r0:=aah.cell 0 bQ;have r1:=aah.cell 1 bQ;have r2:=aah.cell 2 bQ;have r3:=aah.cell 3 bQ;have f0:=aah.free 0 bQ;have f1:=aah.free 1 bQ;have f2:=aah.free 2 bQ;have f3:=aah.free 3 bQ;obtain⟨PI,PF⟩:=aqA aah xp.id num (s.steps+st) (.slice KD (s.out.length+M.out.length) JK);have PI':=bW PI;have PF':=bW PF;have aDx:=FW.row avD.out fun k hk (e:k=w.heap.size+1+1)=>by
        obtain rfl:g=k:=by simpa[Value.ownBlock]using hk
        omega
       have aDy:=FW.row aa3.out fun k hk (e:k=w.heap.size+1+1)=>by have:=(aa3.out.lt k hk).1;omega
       have aDz:dQ (fun b=>(Value.slice (some ⟨g,0,none⟩) n cap).ownBlock=some b) w wz:=((Gu.out.mono (M':=fun b=>(Value.slice (some ⟨g,0,none⟩) n cap).ownBlock=some b∨b=w.heap.size+1+1) fun k _ e=>.inl e).trans (FW.mono fun k _ e=>.inr e)).mono fun k hk e=>e.elim id fun e=>by omega
       have HRN:=bW (show hrun told time c.l .zero=(pre++({ xp with cells:=M.cells}::c.l.drop (i+1)),⟨xp.id,num,s.steps+st,s.out++M.out⟩)by rw[aLN.out];simp only[h0,ne_eq,not_false_eq_true,if_true]);have KG:=bW (aDd uw.out HN.out hs1 PF'.out aDz HRN.out HLS.out aDx HCS.out (by simpa using aDy));clear PI PF aah aDx aDy aDz IW FW;go_wp2_with fail;exact bodyPost_ret (avx Tryz.results30 (p:=⟨w.heap.size+1,0,none⟩) oZ (aDb PI'.out)) rfl ⟨.slice KD (s.out.length+M.out.length) JK,by rw[HRN.out],KG.out.1,⟨_,KG.out.2.1⟩,KG.out.2.2⟩
  ·obtain rfl:i=n:=bQ;have k0:=HI.out.said.cell 0 bQ;have k1:=HI.out.said.cell 1 bQ;refine aBe ?_;intro k2 k3 r0 r1 r2 r3 f0 f1 f2 f3;obtain⟨U9,Va,rfl⟩:=pI HI.out.out;obtain⟨PI,PF⟩:=aqA HI.out.res 0 0 s.steps (.slice U9 s.out.length Va);have PI':=bW PI;have PF':=bW PF;clear PI PF;go_wp2_with fail;have Gx:=HI.out.run;have hl0:=HI.out.l;rw[List.drop_of_length_le (by have:=uw.out.l;rw[←this,List.length_map];have:=HN.out;omega)]at Gx hl0;rw[aLq,List.append_nil]at Gx;rw[List.append_nil]at hl0;exact bodyPost_ret (avx Tryz.results30 (p:=⟨w.heap.size+1,0,none⟩) oZ (aDb PI'.out)) rfl ⟨.slice U9 s.out.length Va,jQ,by rw[Gx];simp only[HI.out.oW,HI.out.num],aDd uw.out HN.out hs1 PF'.out HI.out.fG Gx hl0 HI.out.row HI.out.code HI.out.out⟩
def CV(d:HD)(k:Nat)(s:HS):HD:=⟨upd d.c k s.c,upd d.q k s.q,d.may,upd d.left k s.left,s.time⟩
def Qp(d:HD)(k:Nat):HS:=⟨d.c k,d.q k,d.left k+d.may k,d.time,[]⟩
theorem aKY(d:HD)(k:Nat):({ d with left:=upd d.left k (d.left k+d.may k)}:HD)=CV d k (Qp d k):=by
 unfold CV Qp;simp only[aqL]
theorem aK4(d:HD)(k:Nat)(s:HS)(e:Nat→Int)(r:List (Nat→Int)):(⟨upd (CV d k s).c k ⟨(hrun e s.time s.c.l .zero).1,s.c.next⟩,upd (CV d k s).q k r,d.may,upd (CV d k s).left k (s.left-((hrun e s.time s.c.l .zero).2.steps+1)),s.time+1⟩:HD)=CV d k (s.one e r):=by
 unfold CV HS.one;simp only[avE]
theorem aK7(d:HD)(k:Nat):({ CV d k (d.turn k)with left:=upd (CV d k (d.turn k)).left k (d.turn k).rest}:HD)=d.after k:=by
 unfold CV HD.after;simp only[avE]
theorem aCZ(d:HD)(k:Nat)(s:HS):(CV d k s).left k=s.left:=upd_same _ _ _
theorem aKZ(d:HD)(k:Nat)(s:HS):(CV d k s).q k=s.q:=upd_same _ _ _
theorem aC1(d:HD)(k:Nat)(s:HS):(CV d k s).c k=s.c:=upd_same _ _ _
theorem aK8(d:HD)(k:Nat)(s:HS)(h:s.q=[]∨True)(hr:s.rest=s.left):({ CV d k s with left:=upd (CV d k s).left k s.rest}:HD)=CV d k s:=by
 rw[hr];unfold CV;simp only[avE]
theorem aL3{s:HS}{e:Nat→Int}{r:List (Nat→Int)}(hq:s.q=e::r)(hl:0<s.left):P.drain s.q.length s=P.drain (s.one e r).q.length (s.one e r):=by
 rw[hq];show P.drain (r.length+1) s=P.drain r.length (s.one e r);rw[P.drain,hq];simp only;rw[dB hl]
theorem aC6{s:HS}(h:s.q=[]∨¬0<s.left):P.drain s.q.length s=s:=by
 rcases h with h|h
 ·rw[h];rfl
 ·exact aLP _ s bQ
theorem aDL:∀ (k:Nat) (s:HS),(P.drain k s).time+(P.drain k s).q.length=s.time+s.q.length∧s.time≤(P.drain k s).time
 |0,s=>⟨rfl,Int.le_refl _⟩
 |k+1,s=>by
  unfold P.drain;cases hq:s.q with
  |nil=>exact⟨by simp only[hq],Int.le_refl _⟩
  |cons e r =>
   simp only;by_cases hl:0<s.left
   ·rw[dB hl];have:=aDL k (s.one e r);have e1:(s.one e r).time=s.time+1:=rfl;have e2:(s.one e r).q=r:=rfl;rw[e1,e2]at this;simp only[List.length_cons];omega
   ·rw[dw hl];exact⟨by rw[hq],Int.le_refl _⟩
def sW(d:HD):Nat→HD
 |0=>d
 |k+1=>(sW d k).after k
def Vt(d:HD):Nat→List (Int × Sd)
 |0=>[]
 |k+1=>Vt d k++(sW d k).aa5 k
theorem aL4(d:HD):sW d 3=d.round:=rfl
theorem aDM(d:HD):Vt d 3=d.done:=rfl
theorem aqT(d:HD):∀ (n j:Nat),n≤j→(sW d n).left j=d.left j∧(sW d n).q j=d.q j∧(sW d n).may=d.may
 |0,j,_=>⟨rfl,rfl,rfl⟩
 |n+1,j,h=>by
  obtain⟨h1,h2,h3⟩:=aqT d n j bQ;unfold sW HD.after;exact⟨(fB bQ).trans h1,(fB bQ).trans h2,h3⟩
theorem ayQ(d:HD)(k:Nat):(d.turn k).time+(d.turn k).q.length=d.time+(d.q k).length∧d.time≤(d.turn k).time:=aDL _ _
theorem aCY(d:HD)(hq:∀ j,j<3→(d.q j).length≤20):∀ n:Nat,n≤3→d.time≤(sW d n).time∧(sW d n).time≤d.time+20*n
 |0,_=>by simp[sW]
 |n+1,hn=>by
  have ih:=aCY d hq n bQ;have ht:=ayQ (sW d n) n;have h2:=(aqT d n n (Nat.le_refl _)).2.1;have h3:=hq n bQ;rw[h2]at ht;have e:(sW d (n+1)).time=((sW d n).turn n).time:=rfl;rw[e]
  push_cast
  omega
structure SOk(d:HD)(k:Nat)(s:HS):Prop where
 drain:P.drain s.q.length s=d.turn k
 lo:-1000000002000≤s.left
 hi:s.left≤2000000000000
 time:s.time+s.q.length=d.time+(d.q k).length
 since:d.time≤s.time
 few:s.done.length+s.q.length=(d.q k).length
theorem SOk.start{d:HD}{k:Nat}(h1:-1000000000000≤d.left k)(h2:d.left k≤1000000000000)(h3:0≤d.may k)(h4:d.may k≤1000):SOk d k (Qp d k) :=
 ⟨rfl,by show _≤d.left k+d.may k;omega,by show d.left k+d.may k≤_;omega,rfl,Int.le_refl _,by show 0+_=_;rw[Nat.zero_add];rfl⟩
theorem SOk.one{d:HD}{k:Nat}{s:HS}(h:SOk d k s){e:Nat→Int}{r:List (Nat→Int)}(hq:s.q=e::r)(hl:0<s.left)(h8:s.c.l.length≤8):SOk d k (s.one e r):=by
 have hs:=ahi e s.time s.c.l .zero;have z:Sd.zero.steps=0:=rfl;rw[z]at hs;have ht:=h.time;rw[hq,List.length_cons]at ht;have e1:(s.one e r).left=s.left-((hrun e s.time s.c.l .zero).2.steps+1):=rfl;have e2:(s.one e r).time=s.time+1:=rfl;have e3:(s.one e r).q=r:=rfl;have hlo:=h.lo;have hhi:=h.hi;have hsi:=h.since;have hfw:=h.few;rw[hq,List.length_cons]at hfw;refine⟨(aL3 hq hl).symm.trans h.drain,?_,?_,?_,?_,?_⟩
 ·rw[e1];omega
 ·rw[e1];omega
 ·rw[e2,e3];omega
 ·rw[e2];omega
 ·unfold HS.one;simp only[List.length_append,List.length_cons,List.length_nil];omega
theorem Et.last{w:World}{e:Nat→Int}{r:List (Nat→Int)}{g o:Nat}(h:Et w (e::r) (.slice (some ⟨g,o*8,none⟩) (r.length+1) 1)):Et w r (.slice (some ⟨g,o*8,none⟩) r.length 0):=by
 exact azU
def LG(x:Int × Sd × Value):List Value:=[aU x.1,aU x.2.1.oW,aU x.2.1.num,x.2.2,aU x.2.1.steps]
theorem aDN(x:Int × Sd × Value):(LG x).length=5:=rfl
structure X4(w:World)(B:Nat)(L:List (Int × Sd × Value))(v:Value):Prop where
 row:w.ownsRow B 98 5 v L.length (L.flatMap LG)
 outs:∀ x∈L,w.ownsRow B 2 1 x.2.2 x.2.1.out.length (x.2.1.out.map (Value.int .i64))
theorem X4.zero(w:World)(B:Nat):X4 w B [] (.slice none 0 0):=⟨World.ownsRow_nil _ _ _ _,fun x h=>by cases h⟩
theorem X4.fG{M:Nat→Prop}{w w':World}{B:Nat}{L:List (Int × Sd × Value)}{v:Value}(h:X4 w B L v)(hf:dQ M w w')(h1:∀ b,v.ownBlock=some b→¬M b)(h2:∀ b,Typed w b 2→¬M b):X4 w' B L v :=
 ⟨hf.row h.row h1,fun x hx=>hf.row (h.outs x hx) fun b hb=>h2 b (kD (h.outs x hx) b hb)⟩
theorem aL5:((Tryz.prog).info? 98).map (fun i=>(i.zero,i.size,i.bytes))=some (some (.agg #[aU 0,aU 0,aU 0,.slice none 0 0,aU 0]),5,56):=dF
theorem aPy{w:World}{B:Nat}{L:List (Int × Sd × Value)}{v:Value}(h:X4 w B L v):∀ u∈L.flatMap LG,u.oneCell'=true:=by
 intro u hu;obtain⟨x,hx,hu⟩:=List.mem_flatMap.1 hu;obtain⟨og,cp,ho⟩:=pI (h.outs x hx);unfold LG at hu;simp only[List.mem_cons,List.not_mem_nil,or_false]at hu;rcases hu with rfl|rfl|rfl|rfl|rfl
 all_goals first|rfl|(rw[ho];rfl)
theorem aK6(B:Nat)(L:List (Int × Sd × Value))(v:Value)(x:Int × Sd × Value)(ad c:Nat)(w:World)(hB:B≤w.heap.size)(h:X4 w B L v)(hx:w.ownsRow B 2 1 x.2.2 x.2.1.out.length (x.2.1.out.map (Value.int .i64)))(had:∀ j u,(LG x)[j]?=some u→w.cell? ⟨ad,j,none⟩=some u)(hs:L.length≤1000) :
  ∃ v' w',(Builtin.append_ #[92,92] 92 #[v,.slice (some ⟨ad,0,none⟩) 1 c]).run Tryz.prog w=.ok v' w'∧X4 w' B (L++[x]) v'∧w.grownBy w' v.ownBlock:=by
 obtain⟨i0,hi0,hz⟩:=Option.map_eq_some_iff.1 aL5;have hz0:i0.zero=some _:=congrArg (·.1) hz;have hz1:i0.size=5:=congrArg (·.2.1) hz;have hz2:i0.bytes=56:=congrArg (·.2.2) hz;obtain⟨ogx,cpx,ho⟩:=pI hx;obtain⟨v',w',hr,h2,h3,_,_⟩:=run_append_own_at (P:=Tryz.prog) (w:=w) B 92 92 98 i0 _ 5 56 Tryz.underlying92 hi0 hz0 hz1 hz2 rfl dS v L.length (L.flatMap LG) h.row ⟨ad,0,none⟩ 1 c (LG x) rfl (fun j u hj=>by
   have ea:w.cell? (Addr.add ⟨ad,0,none⟩ j)=w.cell? ⟨ad,j,none⟩:=by
    simp[Addr.add]
    split<;>simp_all
   rw[ea];exact had j u hj) (fun u hu=>by
   unfold LG at hu
   simp only[List.mem_cons,List.not_mem_nil,or_false]at hu
   rcases hu with rfl|rfl|rfl|rfl|rfl
   all_goals first|rfl|(rw[ho];rfl)) JF bQ hB
 exact ayc
theorem Typed.same{w:World}{b:Nat}{s t:TypeId}(h:Typed w b s)(k:Typed w b t):s=t:=by
 obtain⟨c,hc⟩:=h;obtain⟨c',hd⟩:=k;rw[hc]at hd;injection hd with hd;injection hd
theorem kQ.kind{w:World}{D:Nat}{d:HD}{vs qs:Nat→Value}{dO:Nat→List (HP × Value)}(h:lC w D d vs qs dO){b:Nat}(hb:kQ D vs qs b){t:TypeId}(ht:Typed w b t):t=78∨t=106∨t=125:=by
 rcases hb with rfl|⟨k,hk,hb|hb⟩
 ·exact .inl (ht.same h.typed)
 ·exact .inr (.inl (ht.same (kD (h.chain k hk).row b hb)))
 ·exact .inr (.inr (ht.same ((h.queue k hk).typed b hb)))
theorem aDO:∀ (k:Nat) (s:HS),(P.drain k s).done.length+(P.drain k s).q.length=s.done.length+s.q.length
 |0,s=>rfl
 |k+1,s=>by
  unfold P.drain;cases hq:s.q with
  |nil=>simp only[hq]
  |cons e r =>
   simp only;by_cases hl:0<s.left
   ·rw[dB hl,aDO k (s.one e r)];unfold HS.one;simp only[List.length_append,List.length_cons,List.length_nil];omega
   ·rw[dw hl,hq]
theorem aqU(d:HD)(hq:∀ j,j<3→(d.q j).length≤20):∀ n:Nat,n≤3→(Vt d n).length≤20*n
 |0,_=>Nat.le_refl _
 |n+1,hn=>by
  have ih:=aqU d hq n bQ;have h2:=(aqT d n n (Nat.le_refl _)).2.1;have h3:=hq n bQ;have h4:=aDO ((sW d n).q n).length (Qp (sW d n) n);have e1:(Qp (sW d n) n).q=(sW d n).q n:=rfl;have e2:(Qp (sW d n) n).done=[]:=rfl;have e3:P.drain ((sW d n).q n).length (Qp (sW d n) n)=(sW d n).turn n:=rfl;rw[e1,e2,e3,h2,List.length_nil]at h4;unfold Vt HD.aa5;rw[List.length_append,List.length_map];omega
theorem D5(w:World)(b j:Nat)(v:Value):dQ (fun k=>k=b) w (w.setCell ⟨b,j,none⟩ v):=⟨rfl,rfl,rfl,by simp,fun k _ hk=>Below.heap_setCell _ _ _ _ hk⟩
theorem Typed.aK1{M:Nat→Prop}{w w':World}{b:Nat}{s:TypeId}(h:Typed w b s)(hf:dQ M w w')(hM:¬M b):Typed w' b s:=by
 obtain⟨c,hc⟩:=h;exact⟨c,(hf.block b (Array.getElem?_eq_some_iff.1 hc).1 hM).trans hc⟩
theorem asP(a b:Int)(og:Option Addr)(n c:Nat)(z:Int):∀ v∈([aU a,aU b,.slice og n c,aU z]:List Value),v.oneCell'=true:=by
 intro v hv;simp only[List.mem_cons,List.not_mem_nil,or_false]at hv;rcases hv with rfl|rfl|rfl|rfl<;>rfl
theorem aK3{M:Nat→Prop}{W W':World}{b o n:Nat}(h:W.there b o n)(hf:dQ M W W')(hM:¬M b)(hl:b<W.heap.size):W'.there b o n:=fun j hj=>by
 obtain⟨h1,h2⟩:=h j hj;have hb:=hf.block b hl hM;exact⟨by rw[World.cell?_of_block (w:=W) (a:=⟨b,o+j,none⟩) hb];exact h1,by rw[World.frozen?_of_block (w:=W) (a:=⟨b,o+j,none⟩) hb];exact h2⟩
theorem aC5{w2 w5 W:World}{c:HC}{v o:Value}{pl:List (HP × Value)}{m n:Nat}{xs:List Value}(hf:dQ (fun b=>v.ownBlock=some b) w2 w5)(hrow:w5.ownsRow w2.heap.size 2 1 o n xs)(hch:uP w5 c v pl)(hz:dQ (fun b=>b=m) w5 W)(hm:w2.heap.size≤m)(hv:∀ b,v.ownBlock=some b→b<w2.heap.size)(hs:∀ b,o.ownBlock=some b→b≠m)(ht:∀ b,Typed w5 b 110→b≠m) :
  W.ownsRow w2.heap.size 2 1 o n xs∧uP W c v pl∧dQ (fun b=>v.ownBlock=some b) w2 W :=
 ⟨hz.row hrow hs,hch.fG hz (fun b hb e=>by have:=hv b hb;omega) ht,((hf.mono (M':=fun b=>v.ownBlock=some b∨b=m) fun k _ e=>.inl e).trans (hz.mono fun k _ e=>.inr e)).mono fun k hk e=>e.elim id fun e=>by omega⟩
def i8(e:Nat→Int):Nat→Value:=fun j=>([aU (e 0),aU (e 1),aU (e 2),aU (e 3),aU (e 4),aU (e 5),aU (e 6),aU (e 7)]:List Value).getD j undef
def i4(a b:Int)(o:Value)(c:Int):Nat→Value:=fun j=>([aU a,aU b,o,aU c]:List Value).getD j undef
theorem akJ{W:World}{b D:Nat}{e:Nat→Int}{d:HD}{vs qs:Nat→Value}(h:P.Img W b 8 (i8 e))(hd:P.Img W D 16 (Cm d vs qs)):W.cell? ⟨b,0,none⟩=some (aU (e 0))∧W.cell? ⟨b,1,none⟩=some (aU (e 1))∧W.cell? ⟨b,2,none⟩=some (aU (e 2))∧W.cell? ⟨b,3,none⟩=some (aU (e 3))∧W.cell? ⟨b,4,none⟩=some (aU (e 4))∧W.cell? ⟨b,5,none⟩=some (aU (e 5))∧W.cell? ⟨b,6,none⟩=some (aU (e 6))∧W.cell? ⟨b,7,none⟩=some (aU (e 7))∧W.cell? ⟨D,15,none⟩=some (aU d.time) :=
 ⟨h.cell 0 bQ,h.cell 1 bQ,h.cell 2 bQ,h.cell 3 bQ,h.cell 4 bQ,h.cell 5 bQ,h.cell 6 bQ,h.cell 7 bQ,hd.cell 15 bQ⟩
structure wS(w:World)(D:Nat)(vs qs:Nat→Value)(d':HD)(dn:List (Int × Sd))(y:Value)(iW:Nat→Value)(iP:Nat→List (HP × Value))(L:List (Int × Sd × Value))(wr:World):Prop where
 iQ:lC wr D d' vs iW iP
 Kz:X4 wr w.heap.size L y
 eq:L.map (fun x=>(x.1,x.2.1))=dn
 fG:dQ (kQ D vs qs) w wr
 own:∀ b,kQ D vs iW b→kQ D vs qs b∨w.heap.size≤b
section
variable{w wr wr':World}{D:Nat}{vs qs iW aeD:Nat→Value}{d' d'':HD}{dn:List (Int × Sd)}{y:Value}{iP agU:Nat→List (HP × Value)}{L:List (Int × Sd × Value)}
theorem wS.step(h:wS w D vs qs d' dn y iW iP L wr)(hf:dQ (kQ D vs iW) wr wr')(hd:lC wr' D d'' vs aeD agU)(ho:∀ b,kQ D vs aeD b→kQ D vs iW b∨wr.heap.size≤b):wS w D vs qs d'' dn y aeD agU L wr':=by
 refine⟨hd,h.Kz.fG hf (fun b hb e=>?_) (fun b ht e=>?_),h.eq,?_,fun b hb=>?_⟩
 ·have:=kQ.kind h.iQ e (kD h.Kz.row b hb);revert this;decide
 ·have:=kQ.kind h.iQ e ht;revert this;decide
 ·exact((h.fG.mono (M':=fun b=>kQ D vs qs b∨w.heap.size≤b) fun k _ e=>.inl e).trans (hf.mono fun k _ e=>h.own k e)).mono fun k hk e=>e.elim id fun e=>by omega
 ·exact aye
theorem wS.later(h:wS w D vs qs d' dn y iW iP L wr)(hb:Below wr.heap.size wr wr'):wS w D vs qs d' dn y iW iP L wr' :=
 h.step ((dQ.of hb (M:=kQ D vs iW))) (h.iQ.later hb) fun b hb=>.inl hb
theorem wS.left(h:wS w D vs qs d' dn y iW iP L wr){k:Nat}(hk:k<3)(x:Int):wS w D vs qs { d' with left:=upd d'.left k x} dn y iW iP L (wr.setCell ⟨D,12+k,none⟩ (aU x)):=by
 obtain⟨h1,h2⟩:=h.iQ.aJZ hk x;exact h.step (h2.mono fun b _ e=>.inl e) h1 fun b hb=>.inl hb
theorem wS.time(h:wS w D vs qs d' dn y iW iP L wr)(x:Int):wS w D vs qs { d' with time:=x} dn y iW iP L (wr.setCell ⟨D,15,none⟩ (aU x)):=by
 obtain⟨h1,h2⟩:=h.iQ.aJ0 x;exact h.step (h2.mono fun b _ e=>.inl e) h1 fun b hb=>.inl hb
theorem wS.tail(h:wS w D vs qs d' dn y iW iP L wr){k:Nat}(hk:k<3){r:List (Nat→Int)}{v':Value}(hq:Et wr r v')(hown:∀ b,v'.ownBlock=some b→(iW k).ownBlock=some b):wS w D vs qs { d' with q:=upd d'.q k r} dn y (upd iW k v') iP L (wr.setCell ⟨D,6+k,none⟩ v'):=by
 exact ayf
theorem wS.ran(h:wS w D vs qs d' dn y iW iP L wr){k:Nat}(hk:k<3)(hf:dQ (fun b=>(vs k).ownBlock=some b) wr wr'){c':HC}{jQ:List (HP × Value)}(hq:uP wr' c' (vs k) jQ)(hnext:c'.next=(d'.c k).next):wS w D vs qs { d' with c:=upd d'.c k c'} dn y iW (upd iP k jQ) L wr' :=
 h.step (hf.mono fun b _ e=>.inr ⟨k,hk,.inl e⟩) (h.iQ.ran hk hf hq hnext) fun b hb=>.inl hb
theorem wS.add(h:wS w D vs qs d' dn y iW iP L wr){x:Int × Sd × Value}{y':Value}(hd:X4 wr' w.heap.size (L++[x]) y')(hg:wr.grownBy wr' y.ownBlock):wS w D vs qs d' (dn++[(x.1,x.2.1)]) y' iW iP (L++[x]) wr':=by
 have hf:=dQ.grown hg (M:=fun b=>y.ownBlock=some b) fun k e=>e;refine⟨h.iQ.fG hf (fun b hb e=>?_) (fun b ht e=>?_),hd,?_,?_,h.own⟩
 ·have:=kQ.kind h.iQ hb (kD h.Kz.row b e);revert this;decide
 ·exact asO
 ·rw[List.map_append,h.eq];rfl
 ·exact((h.fG.mono (M':=fun b=>kQ D vs qs b∨w.heap.size≤b) fun k _ e=>.inl e).trans (hf.mono fun k _ e=>.inr (h.Kz.row.lt k e).1)).mono fun k hk e=>e.elim id fun e=>by omega
theorem wS.aK2(h:wS w D vs qs d' dn y iW iP L wr){g:Nat}(hgw:g<w.heap.size)(hg:¬kQ D vs qs g){k:Nat}(hk:k<3):(vs k).ownBlock≠some g:=fun e=>by
 rcases h.own g (.inr ⟨k,hk,.inl e⟩)with e|e
 ·exact hg e
 ·omega
end
end Go.Proofs.YtglilddlhibogaaGreatDoor.W
namespace Go.Proofs.YtglilddlhibogaaGreatDoor.W
open Go.RowKit Go.Proofs.YtglilddlhibogaaGreatDoor.P
def DW(w:World)(q:List (Nat→Int))(v:Value):Prop:=∃ og cap,v=.slice og q.length cap∧q.length≤cap∧cap≤maxLen∧((og=none∧cap=0) ∨
 ∃ g o cur,og=some ⟨g,o*8,none⟩∧w.heap[g]?=some (.cells cur 34 (0,0))∧(o+cap)*8≤cur.size∧(cur.toList.drop (o*8)).take (q.length*8)=q.flatMap t8)
theorem DW.zero(w:World):DW w [] (.slice none 0 0):=⟨none,0,rfl,Nat.le_refl _,by unfold maxLen;omega,.inl ⟨rfl,rfl⟩⟩
theorem DW.fG{M:Nat→Prop}{w w':World}{q:List (Nat→Int)}{v:Value}(h:DW w q v)(hf:dQ M w w')(h1:∀ k,v.ownBlock=some k→¬M k):DW w' q v:=by
 exact azO
theorem DW.typed{w:World}{q:List (Nat→Int)}{v:Value}(h:DW w q v):∀ k,v.ownBlock=some k→Typed w k 34:=by
 exact azP
theorem DW.form{w:World}{q:List (Nat→Int)}{v:Value}(h:DW w q v):∃ og cap,v=.slice og q.length cap:=ax7
theorem aIl:((Tryz.prog).info? 34).map (fun i=>(i.zero,i.size,i.bytes))=some (some (.agg #[aU 0,aU 0,aU 0,aU 0,aU 0,aU 0,aU 0,aU 0]),8,64):=dF
theorem aIm(W:World)(q:List (Nat→Int))(v:Value)(told:Nat→Int)(ad c:Nat)(h:DW W q v)(hn:q.length<20)(had:∀ j u,(t8 told)[j]?=some u→W.cell? ⟨ad,j,none⟩=some u) :
  ∃ v' W',(∀ ty,(Builtin.append_ #[41,41] ty #[v,.slice (some ⟨ad,0,none⟩) 1 c]).run Tryz.prog W=.ok v' W')∧DW W' (q++[told]) v'∧W.grownBy W' v.ownBlock∧(v'.ownBlock=v.ownBlock∨∀ b,v'.ownBlock=some b→W.heap.size≤b):=by
 obtain⟨i0,hi,hq⟩:=Option.map_eq_some_iff.1 aIl;have hz0:i0.zero=some _:=congrArg (·.1) hq;have hz1:i0.size=8:=congrArg (·.2.1) hq;have hz2:i0.bytes=64:=congrArg (·.2.2) hq;have hadd:∀ b k j,(⟨b,k,none⟩:Addr).add j=⟨b,k+j,none⟩:=fun b k j=>by unfold Addr.add;split<;>simp_all
 have aey:∀ j u,(t8 told)[j]?=some u→W.cell? ((⟨ad,0,none⟩:Addr).add j)=some u:=fun j u hj=>by rw[hadd,Nat.zero_add];exact had j u hj
 obtain⟨og,cap,rfl,hcap,hmax,hk⟩:=h;by_cases hr:q.length+1≤cap
 ·rcases hk with ⟨-,h0⟩|⟨g,o,cur,rfl,hg,hsz,hxs⟩
  ·omega
  refine⟨_,_,fun ty=>asG W _ ty 34 i0 Tryz.underlying41 hi g (o*8) q.length cap cur hg ⟨ad,0,none⟩ 1 c (t8 told) (by rw[hz1];rfl) aey (ao8 told) hr (by rw[hz1,Gq];omega),?_,?_,.inl rfl⟩
  ·exact axR
  ·exact axS
 ·have hold:(Builtin.firstCells i0.size q.length (.slice og q.length cap)).run Tryz.prog W.drew=.ok (q.flatMap t8).toArray W.drew:=by
   rw[hz1];rcases hk with ⟨rfl,h0⟩|⟨g,o,cur,rfl,hg,hsz,hxs⟩
   ·exact axT
   ·refine run_firstCells_some W.drew 8 q.length ⟨g,o*8,none⟩ q.length cap (q.flatMap t8) (aaG Gq q) fun j u hj=>?_;rw[hadd];show W.cell? _=_;rw[cell_of_row W g (o*8+j) cur 34 (0,0) hg];exact axU
  have hsrc:Src Tryz.prog i0.size 41 (.slice (some ⟨ad,0,none⟩) 1 c) 1 (t8 told) W:=by
   rw[hz1];exact Src.ofSlice W Tryz.underlying41 ⟨ad,0,none⟩ 1 c (t8 told) rfl aey (ao8 told)
  obtain⟨z,hz,hzs⟩:∃ z,i0.zero=some z∧z.cells.size=8:=⟨_,hz0,rfl⟩;have hcl:cap≤q.length:=bQ;refine⟨_,_,fun ty=>run_append_grow_src W _ _ ty 34 i0 z Tryz.underlying41 hi hz og q.length cap (q.flatMap t8) hold _ 1 (t8 told) hsrc bQ bQ asH,?_,?_,.inr fun b hb=>ao9⟩
  ·refine⟨_,grownCap W (q.length+1) cap 34,by rw[List.length_append];rfl,by rw[List.length_append];exact grownCap_ge W _ _ _,grownCap_le_maxLen W _ _ _ JF,.inr ⟨W.heap.size,0,_,rfl,heap_alloc_new W.drew _,?_,?_⟩⟩
   ·have hge:=grownCap_ge W (q.length+1) cap 34;exact axV
   ·exact axW
  ·exact asI
theorem DW.tail{w:World}{e:Nat→Int}{r:List (Nat→Int)}{v:Value}(h:DW w (e::r) v):∃ g o cap,v=.slice (some ⟨g,o*8,none⟩) (r.length+1) cap∧r.length+1≤cap∧cap≤maxLen∧w.rangeAt g (o*8) (t8 e)∧DW w r (.slice (some ⟨g,(o+1)*8,none⟩) r.length (cap-1)):=by
 obtain⟨og,cap,rfl,h2,h3,h4⟩:=h;simp only[List.length_cons]at h2 h4 ⊢;rcases h4 with ⟨_,h0⟩|⟨g,o,cur,rfl,hg,h5,h6⟩
 ·omega
 ·refine⟨g,o,cap,rfl,h2,h3,fun j u hj=>?_,_,_,rfl,by omega,by omega,.inr ⟨g,o+1,cur,rfl,hg,by omega,?_⟩⟩
  ·have hj8:j<8:=azR;rw[cell_of_row w g (o*8+j) cur 34 (0,0) hg];exact azS
  ·exact azT
theorem DW.last{w:World}{e:Nat→Int}{r:List (Nat→Int)}{g o:Nat}(h:DW w (e::r) (.slice (some ⟨g,o*8,none⟩) (r.length+1) 1)):DW w r (.slice (some ⟨g,o*8,none⟩) r.length 0):=by
 exact azU
end Go.Proofs.YtglilddlhibogaaGreatDoor.W
namespace Go.Proofs.YtglilddlhibogaaGreatDoor.P
open Go.Proofs.YtglilddlhibogaaGreatDoor.W (Sorted hfind)
def HC.detach(c:HC)(id:Int):HC × Int:=if hfind c.l id<c.l.length then({ c with l:=c.l.eraseIdx (hfind c.l id)},0)else(c,7)
def HC.replace(c:HC)(id:Int)(L:List Step):HC × (Int × Int) :=
  if hfind c.l id<c.l.length then(if(verify (nth L) L.length).1.1≠0 then(c,(verify (nth L) L.length).1)else({ c with l:=c.l.modify (hfind c.l id) fun p=>{ p with code:=L}},(0,-1)))else(c,(7,-1))
def HD.detach(d:HD)(k:Nat)(id:Int):HD:={ d with c:=upd d.c k ((d.c k).detach id).1}
def HD.replace(d:HD)(k:Nat)(id:Int)(L:List Step):HD:={ d with c:=upd d.c k ((d.c k).replace id L).1}
def HD.ran(d:HD)(k:Nat)(told:Nat→Int)(time:Int):HD:={ d with c:=upd d.c k ⟨(hrun told time (d.c k).l .zero).1,(d.c k).next⟩}
theorem aHA{p:HP}{t:List HP}(h:Sorted (p::t)):Sorted t∧∀ q∈t,p.rank≤q.rank:=by
  refine⟨fun i j a b hij ha hb=>h (i+1) (j+1) a b bQ (by simpa using ha) (by simpa using hb),fun q hq=>?_⟩;obtain⟨i,hi,he⟩:=List.mem_iff_getElem.1 hq;exact h 0 (i+1) p q bQ rfl (by rw[List.getElem?_cons_succ,List.getElem?_eq_getElem hi,he])
theorem ayG(r:Int):∀ (l:List HP),Sorted l→l.filter (fun p=>decide (p.rank≤r))=l.take (hpos l r)∧l.filter (fun p=>decide (r<p.rank))=l.drop (hpos l r)
  |[],_=>⟨rfl,rfl⟩
  |p::t,h=>by
    obtain⟨h1,h2⟩:=aHA h;obtain⟨i1,i2⟩:=ayG r t h1;by_cases hr:r<p.rank
    · have e:hpos (p::t) r=0:=by unfold hpos;rw[List.findIdx_cons];simp[hr]
      rw[e];refine⟨?_,?_⟩
      · rw[List.take_zero];refine List.filter_eq_nil_iff.2 fun q hq=>?_;rcases List.mem_cons.1 hq with rfl|hq
        · simp;omega
        · have:=h2 q hq;simp;omega
      · rw[List.drop_zero];refine List.filter_eq_self.2 fun q hq=>?_;rcases List.mem_cons.1 hq with rfl|hq
        · simpa using hr
        · have:=h2 q hq;simp;omega
    · have e:hpos (p::t) r=hpos t r+1:=by unfold hpos;rw[List.findIdx_cons];simp[hr]
      rw[e];refine⟨?_,?_⟩
      · rw[List.filter_cons,dB eU,i1];rfl
      · rw[List.filter_cons,dw amF,i2];rfl
theorem as3(p:HP)(t:List HP)(id:Int):hfind (p::t) id=if p.id=id then 0 else hfind t id+1:=by
  unfold hfind;rw[List.findIdx_cons];by_cases h:p.id=id
  · rw[dB h,show(p.id==id)=true by simpa using h];rfl
  · rw[dw h,show(p.id==id)=false by simpa using h];rfl
theorem as4{l:List HP}{id:Int}{p:HP}(h:l[hfind l id]?=some p):p.id=id:=by
  induction l with
  |nil=>simp at h
  |cons q t ih =>
    rw[as3]at h;by_cases e:q.id=id
    · rw[dB e]at h;simp only[List.getElem?_cons_zero,Option.some.injEq]at h;rw[←h];exact e
    · rw[dw e,List.getElem?_cons_succ]at h;exact ih h
theorem apl{l:List HP}{id:Int}(h:¬hfind l id<l.length):∀ p∈l,p.id≠id:=by
  induction l with
  |nil=>intro p hp;cases hp
  |cons q t ih =>
    rw[as3]at h;by_cases e:q.id=id
    · rw[dB e]at h;simp at h
    · rw[dw e]at h;intro p hp;rcases List.mem_cons.1 hp with rfl|hp
      · exact e
      · exact ih (by simp at h ⊢;omega) p hp
theorem ayH(id:Int):∀ (l:List HP),(l.map (·.id)).Nodup→l.filter (fun p=>!(p.id==id))=l.eraseIdx (hfind l id)
  |[],_=>rfl
  |p::t,h=>by
    rw[List.map_cons,List.nodup_cons]at h;rw[as3];by_cases e:p.id=id
    · rw[dB e,List.filter_cons,dw (by simp[e]),List.eraseIdx_cons_zero];refine List.filter_eq_self.2 fun q hq=>?_;have:q.id≠id:=fun e2=>h.1 (by rw[e,←e2];exact List.mem_map_of_mem hq);simpa using this
    · rw[dw e,List.filter_cons,dB aeI,List.eraseIdx_cons_succ,ayH id t h.2]
structure HC.Ok(c:HC):Prop where
  ids:(c.l.map (·.id)).Nodup
  low:∀ p∈c.l,1≤p.id∧p.id≤c.next
  good:∀ p∈c.l,(verify (nth p.code) p.code.length).1.1=0
  nums:∀ p∈c.l,∀ j,In64 (nth p.code j).off∧In64 (nth p.code j).num
  cells:∀ p∈c.l,∀ r,In64 (p.cells r)
  next:0≤c.next
  short:c.l.length≤8
theorem HC.Ok.zero:HC.Ok ⟨[],0⟩:=⟨List.nodup_nil,fun p h=>(by cases h),fun p h=>(by cases h),fun p h=>(by cases h),fun p h=>(by cases h),Int.le_refl _,by simp⟩
theorem ayI{L:List Step}(h:∀ j,j<L.length→In64 (nth L j).off∧In64 (nth L j).num):∀ j,In64 (nth L j).off∧In64 (nth L j).num:=fun j=>by
  by_cases hj:j<L.length
  · exact h j hj
  · have:nth L j=step0:=by unfold nth;rw[List.getD_eq_getElem?_getD,List.getElem?_eq_none bQ];rfl
    rw[this];exact⟨AL,AL⟩
theorem HC.Ok.attach{c:HC}(h:c.Ok){L:List Step}(hL:∀ j,j<L.length→In64 (nth L j).off∧In64 (nth L j).num)(r:Int):(c.attach L r).1.Ok:=by
  unfold HC.attach;split
  · exact h
  split
  · exact h
  rename_i hv h8;have hv:(verify (nth L) L.length).1.1=0:=Classical.byContradiction hv;have hm:∀ p∈(c.put L r).l,p=⟨c.next+1,r,L,fun _=>0⟩∨p∈c.l:=fun p hp=>by
    unfold HC.put at hp;rcases List.mem_append.1 hp with hp|hp
    · exact .inr (List.mem_of_mem_take hp)
    · rcases List.mem_cons.1 hp with hp|hp
      · exact .inl hp
      · exact .inr (List.mem_of_mem_drop hp)
  have hp:(c.put L r).l.Perm (⟨c.next+1,r,L,fun _=>0⟩::c.l):=by
    unfold HC.put;have:=List.perm_middle (a:=(⟨c.next+1,r,L,fun _=>0⟩:HP)) (l₁:=c.l.take (hpos c.l r)) (l₂:=c.l.drop (hpos c.l r));rwa [List.take_append_drop]at this
  refine⟨?_,fun p hq=>?_,fun p hq=>?_,fun p hq=>?_,fun p hq=>?_,?_,?_⟩
  · rw[(hp.map (·.id)).nodup_iff,List.map_cons,List.nodup_cons];refine⟨fun hin=>?_,h.ids⟩;obtain⟨p,hq,he⟩:=List.mem_map.1 hin;have:=(h.low p hq).2;simp only at he;omega
  · have hn:=h.next;show 1≤p.id∧p.id≤c.next+1;rcases hm p hq with rfl|hq
    · simp only;omega
    · have:=h.low p hq;omega
  · rcases hm p hq with rfl|hq
    · exact hv
    · exact h.good p hq
  · rcases hm p hq with rfl|hq
    · exact ayI hL
    · exact h.nums p hq
  · rcases hm p hq with rfl|hq
    · exact fun _=>AL
    · exact h.cells p hq
  · have:=h.next;show 0≤c.next+1;omega
  · have:=hp.length_eq;rw[this,List.length_cons];omega
theorem HC.Ok.detach{c:HC}(h:c.Ok)(id:Int):(c.detach id).1.Ok:=by
  unfold HC.detach;split
  · have hs:=List.eraseIdx_sublist c.l (hfind c.l id);exact⟨h.ids.sublist (hs.map _),fun p hp=>h.low p (hs.subset hp),fun p hp=>h.good p (hs.subset hp),fun p hp=>h.nums p (hs.subset hp),fun p hp=>h.cells p (hs.subset hp),h.next,Nat.le_trans hs.length_le h.short⟩
  · exact h
theorem aHB{l:List HP}{i:Nat}{f:HP→HP}{p:HP}(h:p∈l.modify i f):∃ q∈l,p=q∨p=f q:=by
  obtain⟨j,hj⟩:=List.mem_iff_getElem?.1 h;rw[List.getElem?_modify]at hj;obtain⟨q,hq,he⟩:=Option.map_eq_some_iff.1 hj;refine⟨q,List.mem_of_getElem? hq,?_⟩;split at he
  · exact .inr he.symm
  · exact .inl he.symm
theorem aHC{l:List HP}{i:Nat}{f:HP→HP}(hf:∀ p,(f p).id=p.id):(l.modify i f).map (·.id)=l.map (·.id):=by
  apply List.ext_getElem?;intro j;rw[List.getElem?_map,List.getElem?_map,List.getElem?_modify];cases l[j]? with
  |none=>rfl
  |some p =>
    by_cases e:i=j
    · simp[e,hf]
    · simp[e]
theorem HC.Ok.replace{c:HC}(h:c.Ok)(id:Int){L:List Step}(hL:∀ j,j<L.length→In64 (nth L j).off∧In64 (nth L j).num):(c.replace id L).1.Ok:=by
  unfold HC.replace;split
  · split
    · exact h
    · rename_i hv;have hv:(verify (nth L) L.length).1.1=0:=Classical.byContradiction hv;refine⟨by show((c.l.modify (hfind c.l id) fun p=>{ p with code:=L}).map (·.id)).Nodup;rw[aHC (f:=fun p:HP=>{ p with code:=L}) fun p=>rfl];exact h.ids,fun p hp=>?_,fun p hp=>?_,fun p hp=>?_,fun p hp=>?_,h.next,by rw[List.length_modify];exact h.short⟩;all_goals obtain⟨q,hq,rfl|rfl⟩:=aHB hp
      · exact h.low p hq
      · exact h.low q hq
      · exact h.good p hq
      · exact hv
      · exact h.nums p hq
      · exact ayI hL
      · exact h.cells p hq
      · exact h.cells q hq
  · exact h
theorem aHD{M M':dM}{told:Nat→Int}{time pc n:Int}{t:Step}(h:M.step told time t pc=.done M' n):M'=M:=by
  unfold dM.step at h;split at h
  · split at h
    · cases h;rfl
    · split at h<;>cases h
  split at h
  · cases h
  split at h
  · exact as5
  split at h
  · split at h<;>cases h
  split at h
  · split at h<;>cases h
  split at h
  · split at h<;>cases h
  · simp only at h;generalize (if t.code=13 then Val.num 0 else M.second t)=x at h;split at h<;>cases h
theorem ayJ{S:Nat→Step}(hS:∀ j,In64 (S j).num){told:Nat→Int}(htl:∀ r,In64 (told r)){time:Int}(um:In64 time) :
    ∀ (k:Nat) (M:dM) (pc st:Int) {M':dM} {n st':Int},Ak M→AX M→dM.run S told time k M pc st=.inr (M',n,st')→AX M'
  |0,M,pc,st,M',n,st',_,_,h=>by rw[dM.run]at h;cases h
  |k+1,M,pc,st,M',n,st',hO,hN,h=>by
    rw[dM.run]at h;cases hs:M.step told time (S pc.toNat) pc with
    |done M1 n1 =>
      rw[hs]at h;simp only[Sum.inr.injEq,Prod.mk.injEq]at h;obtain⟨rfl,-⟩:=h;have:=aHD hs;rw[this];exact hN
    |err e=>rw[hs]at h;simp at h
    |go M1 nx =>
      rw[hs]at h;obtain⟨a,b⟩:=asi hO hN htl um (hS _) hs;exact ayJ hS htl um k M1 nx (st+1) a b h
theorem ayK{L:List Step}(hv:(verify (nth L) L.length).1.1=0)(hL:∀ j,In64 (nth L j).off∧In64 (nth L j).num){told cells:Nat→Int}(htl:∀ r,In64 (told r))(hc:∀ r,In64 (cells r)){time:Int}(um:In64 time) :
    ∃ M num st,Qq (nth L) L.length told cells time=.inr (M,num,st)∧∀ r,In64 (M.cells r):=by
  obtain⟨hck,hvr,-⟩:=aHE hv;have hn:¬(L.length<1∨200<L.length):=fun h=>by unfold check at hck;rw[dB h]at hck;simp at hck
  have h0:(from_ (nth L) L.length 0 L.length).1=0:=by unfold check at hck;rwa [dw hn]at hck
  obtain⟨M,num,st,e,-,-,-⟩:=aF4 bQ (Go.Proofs.YtglilddlhibogaaGreatDoor.W.aar.of h0 fun j _=>hL j) htl hc um hvr;have e2:Qq (nth L) L.length told cells time=.inr (M,num,st):=by unfold Qq;rw[dw hn,dw acT];exact e
  exact⟨M,num,st,e2,(ayJ (fun j=>(hL j).2) htl um L.length _ 0 1 (Ak.init cells) (AX.init hc) e).2.2⟩
theorem as6(told:Nat→Int)(time:Int):∀ (l:List HP) (s:Sd),(hrun told time l s).1.map (fun p=>(p.id,p.code))=l.map (fun p=>(p.id,p.code))
  |[],_=>rfl
  |p::t,s=>by
    rw[hrun];cases ho:Qq (nth p.code) p.code.length told p.cells time with
    |inl e=>simp[as6 told time t s]
    |inr r =>
      obtain⟨M,num,st⟩:=r;simp only;split
      · simp
      · simp[as6 told time t _]
theorem ayL{told:Nat→Int}(htl:∀ r,In64 (told r)){time:Int}(um:In64 time):∀ (l:List HP) (s:Sd),(∀ p∈l,(verify (nth p.code) p.code.length).1.1=0∧(∀ j,In64 (nth p.code j).off∧In64 (nth p.code j).num)∧∀ r,In64 (p.cells r)) →
    ∀ p∈(hrun told time l s).1,∀ r,In64 (p.cells r)
  |[],_,_=>fun p hp=>by cases hp
  |q::t,s,h=>by
    obtain⟨h1,h2,h3⟩:=h q dY;obtain⟨M,num,st,e,hM⟩:=ayK h1 h2 htl h3 um;have ht:∀ p∈t,_:=fun p hp=>h p (List.mem_cons_of_mem _ hp);rw[hrun,e];simp only;split
    · intro p hp;rcases List.mem_cons.1 hp with rfl|hp
      · exact hM
      · exact(ht p hp).2.2
    · intro p hp;rcases List.mem_cons.1 hp with rfl|hp
      · exact hM
      · exact ayL htl um t _ ht p hp
theorem HC.Ok.ran{c:HC}(h:c.Ok){told:Nat→Int}(htl:∀ r,In64 (told r)){time:Int}(um:In64 time):HC.Ok ⟨(hrun told time c.l .zero).1,c.next⟩:=by
  have hi:=as6 told time c.l .zero;have hmem:∀ p∈(hrun told time c.l .zero).1,∃ q∈c.l,q.id=p.id∧q.code=p.code:=fun p hp=>by
    have:(p.id,p.code)∈c.l.map (fun p=>(p.id,p.code)):=hi▸List.mem_map_of_mem (f:=fun p:HP=>(p.id,p.code)) hp;obtain⟨q,hq,e⟩:=List.mem_map.1 this;exact⟨q,hq,congrArg Prod.fst e,congrArg Prod.snd e⟩
  have ahh:(hrun told time c.l .zero).1.map (·.id)=c.l.map (·.id):=by
    have:=congrArg (List.map Prod.fst) hi;simpa[List.map_map,Function.comp_def]using this
  refine⟨by rw[ahh];exact h.ids,fun p hp=>?_,fun p hp=>?_,fun p hp=>?_,ayL htl um c.l .zero (fun p hp=>⟨h.good p hp,h.nums p hp,h.cells p hp⟩),h.next,by rw[as7];exact h.short⟩
  · obtain⟨q,hq,e,-⟩:=hmem p hp;rw[←e];exact h.low q hq
  · obtain⟨q,hq,-,e⟩:=hmem p hp;rw[←e];exact h.good q hq
  · obtain⟨q,hq,-,e⟩:=hmem p hp;rw[←e];exact h.nums q hq
structure rP(i:Nat)(d:HD):Prop where
  ok:∀ k,k<3→(d.c k).Ok
  told:∀ k,k<3→∀ e∈d.q k,∀ r,In64 (e r)
  few:∀ k,k<3→(d.q k).length≤20
  Yu:∀ k,k<3→1≤d.may k∧d.may k≤1000
  left:∀ k,k<3→-1601≤d.left k∧d.left k≤0
  time:0≤d.time∧d.time≤60*i
  next:∀ k,k<3→(d.c k).next≤i
section
variable{i:Nat}{d:HD}
theorem rP.zero{may:Nat→Int}(h:∀ k,k<3→1≤may k∧may k≤1000):rP 0 (HD.zero may) :=
  ⟨fun _ _=>HC.Ok.zero,fun k _ e he=>(by cases he),fun k _=>(by simp[HD.zero]),h,fun k _=>⟨by show(-1601:Int)≤0;decide,Int.le_refl _⟩,⟨Int.le_refl _,Int.le_refl _⟩,fun k _=>Int.le_refl _⟩
theorem rP.idle(h:rP i d):rP (i+1) d :=
  ⟨h.ok,h.told,h.few,h.Yu,h.left,⟨h.time.1,by have:=h.time.2;push_cast;omega⟩,fun k hk=>by have:=h.next k hk;push_cast;omega⟩
theorem rP.acQ(h:rP i d){k:Nat}(hk:k<3){c:HC}(hc:c.Ok)(hn:c.next≤i+1):rP (i+1) { d with c:=upd d.c k c}:=by
  refine⟨fun j hj=>?_,h.told,h.few,h.Yu,h.left,⟨h.time.1,by have:=h.time.2;push_cast;show d.time≤_;omega⟩,fun j hj=>?_⟩
  · by_cases e:j=k
    · subst e;simp only[upd_same];exact hc
    · simp only[fB e];exact h.ok j hj
  · by_cases e:j=k
    · subst e;simp only[upd_same];push_cast;exact hn
    · simp only[fB e];have:=h.next j hj;push_cast;omega
theorem rP.attach(h:rP i d){k:Nat}(hk:k<3){L:List Step}(hL:∀ j,j<L.length→In64 (nth L j).off∧In64 (nth L j).num)(r:Int):rP (i+1) (d.attach k L r) :=
  h.acQ hk ((h.ok k hk).attach hL r) (by
    have:=h.next k hk
    unfold HC.attach
    split
    · show(d.c k).next≤_;omega
    split
    · show(d.c k).next≤_;omega
    · show(d.c k).next+1≤_;omega)
theorem rP.detach(h:rP i d){k:Nat}(hk:k<3)(id:Int):rP (i+1) (d.detach k id) :=
  h.acQ hk ((h.ok k hk).detach id) (by
    have:=h.next k hk
    unfold HC.detach
    split
    · show(d.c k).next≤_;omega
    · show(d.c k).next≤_;omega)
theorem rP.replace(h:rP i d){k:Nat}(hk:k<3)(id:Int){L:List Step}(hL:∀ j,j<L.length→In64 (nth L j).off∧In64 (nth L j).num):rP (i+1) (d.replace k id L) :=
  h.acQ hk ((h.ok k hk).replace id hL) (by
    have:=h.next k hk
    unfold HC.replace
    split
    · split
      · show(d.c k).next≤_;omega
      · show(d.c k).next≤_;omega
    · show(d.c k).next≤_;omega)
theorem rP.ran(h:rP i d){k:Nat}(hk:k<3){told:Nat→Int}(htl:∀ r,In64 (told r)){time:Int}(um:In64 time):rP (i+1) (d.ran k told time) :=
  h.acQ hk ((h.ok k hk).ran htl um) (by have:=h.next k hk;show(d.c k).next≤_;omega)
theorem rP.event(h:rP i d){k:Nat}(hk:k<3){told:Nat→Int}(htl:∀ r,In64 (told r)):rP (i+1) (d.event k told):=by
  unfold HD.event;split
  · exact h.idle
  · have g:=h.idle;refine⟨g.ok,fun j hj e he=>?_,fun j hj=>?_,g.Yu,g.left,g.time,g.next⟩
    · by_cases e1:j=k
      · subst e1;simp only[upd_same]at he;rcases List.mem_append.1 he with he|he
        · exact h.told j hj e he
        · rw[List.mem_singleton.1 he];exact htl
      · simp only[fB e1]at he;exact h.told j hj e he
    · by_cases e1:j=k
      · subst e1;simp only[upd_same,List.length_append,List.length_singleton];omega
      · simp only[fB e1];exact h.few j hj
end
theorem ayM:∀ (n:Nat) (s:HS),s.c.Ok→(∀ e∈s.q,∀ r,In64 (e r))→0≤s.time→s.time+s.q.length≤1000000000→-1601≤s.left →
    (drain n s).c.Ok∧(drain n s).c.next=s.c.next∧(∀ e∈(drain n s).q,∀ r,In64 (e r))∧(drain n s).q.length≤s.q.length∧-1601≤(drain n s).left
  |0,s,h1,h2,_,_,h5=>⟨h1,rfl,h2,Nat.le_refl _,h5⟩
  |n+1,s,h1,h2,h3,h4,h5=>by
    rw[drain];cases hq:s.q with
    |nil=>exact⟨h1,rfl,by rw[hq];exact fun e he=>(by cases he),by rw[hq];exact Nat.le_refl _,h5⟩
    |cons e r =>
      simp only;rw[hq,List.length_cons]at h4;rw[hq]at h2;by_cases hl:0<s.left
      · rw[dB hl];have hst:=ahi e s.time s.c.l .zero;have hsh:=h1.short;have z0:Sd.zero.steps=0:=rfl;rw[z0]at hst;have hok:=h1.ran (told:=e) (h2 e dY) (time:=s.time) aaq;obtain⟨a,b,c,d,f⟩:=ayM n (s.one e r) hok (fun x hx=>h2 x (List.mem_cons_of_mem _ hx)) (by show 0≤s.time+1;omega) (by show s.time+1+(r.length:Int)≤_;omega) (by
          show -1601≤s.left-((hrun e s.time s.c.l .zero).2.steps+1)
          omega)
        refine⟨a,b,c,?_,f⟩;have:(s.one e r).q.length=r.length:=rfl;rw[List.length_cons];omega
      · rw[dw hl];exact⟨h1,rfl,by rw[hq];exact h2,by rw[hq];exact Nat.le_refl _,h5⟩
structure Za(B:Int)(d:HD):Prop where
  ok:∀ k,k<3→(d.c k).Ok
  told:∀ k,k<3→∀ e∈d.q k,∀ r,In64 (e r)
  few:∀ k,k<3→(d.q k).length≤20
  Yu:∀ k,k<3→1≤d.may k∧d.may k≤1000
  left:∀ k,k<3→-1601≤d.left k∧d.left k≤0
  time:0≤d.time∧d.time≤B
theorem Za.after{B:Int}{d:HD}(h:Za B d)(hB:B≤1000000){k:Nat}(hk:k<3):Za (B+20) (d.after k)∧∀ j,((d.after k).c j).next=(d.c j).next:=by
  have hf:=h.few k hk;have hl:=h.left k hk;have hm:=h.Yu k hk;have ht:=h.time;obtain⟨a,b,c,e,f⟩:=ayM (d.q k).length ⟨d.c k,d.q k,d.left k+d.may k,d.time,[]⟩ (h.ok k hk) (h.told k hk) ht.1 JC JC;have um:=Go.Proofs.YtglilddlhibogaaGreatDoor.W.ayQ d k;have hend:=ayR (d.q k).length ⟨d.c k,d.q k,d.left k+d.may k,d.time,[]⟩ (Nat.le_refl _);change (d.turn k).c.Ok at a;change (d.turn k).c.next=(d.c k).next at b;change ∀ e∈(d.turn k).q,_ at c;change (d.turn k).q.length≤(d.q k).length at e;change -1601≤(d.turn k).left at f;change (d.turn k).q=[]∨(d.turn k).left≤0 at hend;have hr:-1601≤(d.turn k).rest∧(d.turn k).rest≤0:=by
    unfold HS.rest;split
    · omega
    · rename_i hq;rcases hend with h0|h0
      · exact absurd h0 hq
      · omega
  refine⟨⟨fun j hj=>?_,fun j hj=>?_,fun j hj=>?_,h.Yu,fun j hj=>?_,?_⟩,fun j=>?_⟩
  · unfold HD.after;by_cases e1:j=k
    · subst e1;simp only[upd_same];exact a
    · simp only[fB e1];exact h.ok j hj
  · unfold HD.after;by_cases e1:j=k
    · subst e1;simp only[upd_same];exact c
    · simp only[fB e1];exact h.told j hj
  · unfold HD.after;by_cases e1:j=k
    · subst e1;simp only[upd_same];omega
    · simp only[fB e1];exact h.few j hj
  · unfold HD.after;by_cases e1:j=k
    · subst e1;simp only[upd_same];exact hr
    · simp only[fB e1];exact h.left j hj
  · show 0≤(d.turn k).time∧(d.turn k).time≤B+20;omega
  · unfold HD.after;by_cases e1:j=k
    · subst e1;simp only[upd_same];exact b
    · simp only[fB e1]
theorem rP.round{i:Nat}{d:HD}(h:rP i d)(hi:i≤60):rP (i+1) d.round:=by
  have h0:Za (60*i) d:=⟨h.ok,h.told,h.few,h.Yu,h.left,h.time⟩;obtain⟨h1,n1⟩:=h0.after bQ (k:=0) bQ;obtain⟨h2,n2⟩:=h1.after bQ (k:=1) bQ;obtain⟨h3,n3⟩:=h2.after bQ (k:=2) bQ;refine⟨h3.ok,h3.told,h3.few,h3.Yu,h3.left,⟨h3.time.1,?_⟩,fun k hk=>?_⟩
  · have:=h3.time.2;push_cast;show(((d.after 0).after 1).after 2).time≤_;omega
  · have:=h.next k hk;have e:(d.round.c k).next=(d.c k).next:=((n3 k).trans (n2 k)).trans (n1 k);rw[e];push_cast;omega
end Go.Proofs.YtglilddlhibogaaGreatDoor.P
namespace Go.Proofs.YtglilddlhibogaaGreatDoor.W
open Go.RowKit Go.Proofs.YtglilddlhibogaaGreatDoor.P
abbrev RP:=HP × Nat × Value
structure BD(w:World)(x:RP):Prop where
 blk:w.heap[x.2.1]?=some (.cells (TF x.1.id x.1.rank x.2.2 x.1.cells).toArray 59 (0,0))
 code:w.ownsRow 0 110 6 x.2.2 x.1.code.length (rowOf x.1.code)
theorem BD.typed{w:World}{x:RP}(h:BD w x):Typed w x.2.1 59:=⟨_,h.blk⟩
theorem BD.fG{M:Nat→Prop}{w w':World}{x:RP}(h:BD w x)(hf:dQ M w w')(h1:¬M x.2.1)(h2:∀ k,Typed w k 110→¬M k):BD w' x :=
 ⟨(hf.block _ h.typed.lt h1).trans h.blk,hf.row h.code fun k hk=>h2 k (kD h.code k hk)⟩
def wR(x:RP):Value:=.pointer (some ⟨x.2.1,0,none⟩)
structure nM(w:World)(C:Nat)(c:HC)(v:Value)(pl:List RP):Prop where
 l:pl.map (·.1)=c.l
 blk:w.heap[C]?=some (.cells #[v,aU c.next] 52 (0,0))
 row:w.ownsRow 0 60 1 v pl.length (pl.map wR)
 LP:∀ x∈pl,BD w x
 apart:(pl.map (·.2.1)).Nodup
theorem nM.typed{w:World}{C:Nat}{c:HC}{v:Value}{pl:List RP}(h:nM w C c v pl):Typed w C 52:=⟨_,h.blk⟩
def iT(C:Nat)(pl:List RP):Nat→Prop:=fun b=>b=C∨∃ x∈pl,x.2.1=b
theorem iT.kind{w:World}{C:Nat}{c:HC}{v:Value}{pl:List RP}(h:nM w C c v pl){b:Nat}(hb:iT C pl b):Typed w b 52∨Typed w b 59:=by
 rcases hb with rfl|⟨x,hx,rfl⟩
 ·exact .inl h.typed
 ·exact .inr (h.LP x hx).typed
theorem nM.fG{M:Nat→Prop}{w w':World}{C:Nat}{c:HC}{v:Value}{pl:List RP}(h:nM w C c v pl)(hf:dQ M w w')(h1:∀ b,iT C pl b→¬M b)(h2:∀ k,Typed w k 110→¬M k)(h3:∀ k,Typed w k 60→¬M k):nM w' C c v pl :=
 ⟨h.l,(hf.block C h.typed.lt (h1 C (.inl rfl))).trans h.blk,hf.row h.row fun k hk=>h3 k (kD h.row k hk),fun x hx=>(h.LP x hx).fG hf (h1 _ (.inr ⟨x,hx,rfl⟩)) h2,h.apart⟩
theorem nM.later{w w':World}{C:Nat}{c:HC}{v:Value}{pl:List RP}(h:nM w C c v pl)(hb:Below w.heap.size w w'):nM w' C c v pl:=h.fG (M:=fun _=>False) (dQ.of hb) (fun _ _ h=>h) (fun _ _ h=>h) (fun _ _ h=>h)
def EW(d:HD)(Cs:Nat→Nat)(qs:Nat→Value):Nat→Value:=fun j =>
 if j<3 then .pointer (some ⟨Cs j,0,none⟩)else if j<6 then qs (j-3)else if j<9 then aU (d.may (j-6))else if j<12 then aU (d.left (j-9))else aU d.time
theorem ayg{d:HD}{Cs:Nat→Nat}{qs:Nat→Value}{k:Nat}(hk:k<3):EW d Cs qs k=.pointer (some ⟨Cs k,0,none⟩):=by unfold EW;rw[dB hk]
theorem agV{d:HD}{Cs:Nat→Nat}{qs:Nat→Value}{k:Nat}(hk:k<3):EW d Cs qs (3+k)=qs k:=by unfold EW;rw[dw bQ,dB bQ,show 3+k-3=k by omega]
theorem aNQ{d:HD}{Cs:Nat→Nat}{qs:Nat→Value}{k:Nat}(hk:k<3):EW d Cs qs (6+k)=aU (d.may k):=by unfold EW;rw[dw bQ,dw bQ,dB bQ,show 6+k-6=k by omega]
theorem aro{d:HD}{Cs:Nat→Nat}{qs:Nat→Value}{k:Nat}(hk:k<3):EW d Cs qs (9+k)=aU (d.left k):=by unfold EW;rw[dw bQ,dw bQ,dw bQ,dB bQ,show 9+k-9=k by omega]
structure xX(w:World)(R:Nat)(d:HD)(Cs:Nat→Nat)(vs qs:Nat→Value)(dO:Nat→List RP):Prop where
 img:P.Img w R 13 (EW d Cs qs)
 typed:Typed w R 46
 chain:∀ k,k<3→nM w (Cs k) (d.c k) (vs k) (dO k)
 queue:∀ k,k<3→DW w (d.q k) (qs k)
 agp:∀ j k b,j<3→k<3→j≠k→iT (Cs j) (dO j) b→¬iT (Cs k) (dO k) b
 Td:∀ j k b,j<3→k<3→j≠k→(qs j).ownBlock=some b→(qs k).ownBlock≠some b
def qo(R:Nat)(Cs:Nat→Nat)(qs:Nat→Value)(dO:Nat→List RP):Nat→Prop:=fun b=>b=R∨∃ k,k<3∧(iT (Cs k) (dO k) b∨(qs k).ownBlock=some b)
section
variable{w w':World}{R:Nat}{d:HD}{Cs:Nat→Nat}{vs qs:Nat→Value}{dO:Nat→List RP}
theorem qo.kind(h:xX w R d Cs vs qs dO){b:Nat}(hb:qo R Cs qs dO b){t:TypeId}(ht:Typed w b t):t=46∨t=52∨t=59∨t=34:=by
 rcases hb with rfl|⟨k,hk,hb|hb⟩
 ·exact .inl (ht.same h.typed)
 ·rcases iT.kind (h.chain k hk) hb with hb|hb
  ·exact .inr (.inl (ht.same hb))
  ·exact .inr (.inr (.inl (ht.same hb)))
 ·exact .inr (.inr (.inr (ht.same ((h.queue k hk).typed b hb))))
theorem qo.lt(h:xX w R d Cs vs qs dO){b:Nat}(hb:qo R Cs qs dO b):b<w.heap.size:=by
 rcases hb with rfl|⟨k,hk,hb|hb⟩
 ·exact h.typed.lt
 ·rcases iT.kind (h.chain k hk) hb with hb|hb<;>exact hb.lt
 ·exact((h.queue k hk).typed b hb).lt
theorem xX.fG{M:Nat→Prop}(h:xX w R d Cs vs qs dO)(hf:dQ M w w')(hM:∀ b,qo R Cs qs dO b→¬M b)(h2:∀ k,Typed w k 110→¬M k)(h3:∀ k,Typed w k 60→¬M k):xX w' R d Cs vs qs dO:=by
 refine⟨hf.img h.img bQ (hM R (.inl rfl)),?_,fun k hk=>?_,fun k hk=>?_,h.agp,h.Td⟩
 ·obtain⟨c,hc⟩:=h.typed;exact⟨c,(hf.block R h.typed.lt (hM R (.inl rfl))).trans hc⟩
 ·exact(h.chain k hk).fG hf (fun b hb=>hM b (.inr ⟨k,hk,.inl hb⟩)) h2 h3
 ·exact aBS
theorem xX.later(h:xX w R d Cs vs qs dO)(hb:Below w.heap.size w w'):xX w' R d Cs vs qs dO:=h.fG (M:=fun _=>False) (dQ.of hb) (fun _ _ h=>h) (fun _ _ h=>h) (fun _ _ h=>h)
theorem xX.acQ(h:xX w R d Cs vs qs dO){k:Nat}(hk:k<3){c':HC}{v':Value}{jQ:List RP}(hf:dQ (iT (Cs k) (dO k)) w w')(hc:nM w' (Cs k) c' v' jQ)(ho:∀ b,iT (Cs k) jQ b→iT (Cs k) (dO k) b∨w.heap.size≤b) :
  xX w' R { d with c:=upd d.c k c'} Cs (upd vs k v') qs (upd dO k jQ)∧dQ (qo R Cs qs dO) w w'∧∀ b,qo R Cs qs (upd dO k jQ) b→qo R Cs qs dO b∨w.heap.size≤b:=by
 have kn:=fun {b} (hb:iT (Cs k) (dO k) b)=>iT.kind (h.chain k hk) hb;have noT:∀ {b:Nat} {t:TypeId},Typed w b t→t≠52→t≠59→¬iT (Cs k) (dO k) b:=fun ht n1 n2 hb=>by
  rcases kn hb with hb|hb
  ·exact n1 (ht.same hb)
  ·exact n2 (ht.same hb)
 have hRf:=noT h.typed dS dS;have cl:∀ j,j<3→∀ b,iT (Cs j) (dO j) b→b<w.heap.size:=fun j hj b hb=>qo.lt h (.inr ⟨j,hj,.inl hb⟩);refine⟨⟨?_,?_,fun j hj=>?_,fun j hj=>?_,fun i j b hi hj ne ei ej=>?_,h.Td⟩,hf.mono fun b _ hb=>.inr ⟨k,hk,.inl hb⟩,fun b hb=>?_⟩
 ·exact hf.img h.img bQ hRf
 ·obtain⟨c,hc⟩:=h.typed;exact⟨c,(hf.block R h.typed.lt hRf).trans hc⟩
 ·by_cases e:j=k
  ·subst e;simp only[upd_same];exact hc
  ·simp only[fB e];exact(h.chain j hj).fG hf (fun b hb=>h.agp j k b hj hk e hb) (fun b ht=>noT ht dS dS) (fun b ht=>noT ht dS dS)
 ·exact(h.queue j hj).fG hf fun b hb=>noT ((h.queue j hj).typed b hb) dS dS
 ·by_cases e1:i=k
  ·subst e1;rw[upd_same]at ei;have e2:j≠i:=fun x=>ne x.symm;rw[fB e2]at ej;rcases ho b ei with x|x
   ·exact h.agp i j b hi hj ne x ej
   ·have:=cl j hj b ej;omega
  ·rw[fB e1]at ei;by_cases e2:j=k
   ·subst e2;rw[upd_same]at ej;rcases ho b ej with x|x
    ·exact h.agp i j b hi hj ne ei x
    ·have:=cl i hi b ei;omega
   ·rw[fB e2]at ej;exact h.agp i j b hi hj ne ei ej
 ·rcases hb with rfl|⟨j,hj,hb|hb⟩
  ·exact .inl (.inl rfl)
  ·by_cases e:j=k
   ·subst e;rw[upd_same]at hb;rcases ho b hb with x|x
    ·exact .inl (.inr ⟨j,hj,.inl x⟩)
    ·exact .inr x
   ·rw[fB e]at hb;exact .inl (.inr ⟨j,hj,.inl hb⟩)
  ·exact .inl (.inr ⟨j,hj,.inr hb⟩)
theorem xX.amo(h:xX w R d Cs vs qs dO){d':HD}{o:Nat}(ho:o<13){u:Value}(hc:d'.c=d.c)(hq:d'.q=d.q)(hi:∀ j,j<13→upd (EW d Cs qs) o u j=EW d' Cs qs j) :
  xX (w.setCell ⟨R,o,none⟩ u) R d' Cs vs qs dO∧dQ (qo R Cs qs dO) w (w.setCell ⟨R,o,none⟩ u):=by
 have hf:=D5 w R o u;have noT:∀ {b:Nat} {t:TypeId},Typed w b t→t≠46→¬b=R:=fun ht n1 e=>n1 ((e▸ht).same h.typed);refine⟨⟨(h.img.set ho u).congr hi,Qm h.typed _ _,fun k hk=>?_,fun k hk=>?_,h.agp,h.Td⟩,hf.mono fun b _ e=>.inl e⟩
 ·rw[hc];refine(h.chain k hk).fG hf (fun b hb=>?_) (fun b ht=>noT ht dS) (fun b ht=>noT ht dS);rcases iT.kind (h.chain k hk) hb with hb|hb
  ·exact noT hb dS
  ·exact noT hb dS
 ·rw[hq];exact(h.queue k hk).fG hf fun b hb=>noT ((h.queue k hk).typed b hb) dS
theorem aGQ{d:HD}{Cs:Nat→Nat}{qs:Nat→Value}{k:Nat}(hk:k<3)(x:Int):∀ j,j<13→upd (EW d Cs qs) (9+k) (aU x) j=EW { d with left:=upd d.left k x} Cs qs j:=by
 intro j hj;by_cases e:j=9+k
 ·subst e;rw[upd_same,aro hk];show _=aU (upd d.left k x k);rw[upd_same]
 ·rw[fB e];unfold EW;simp only;by_cases h1:j<3
  ·rw[dB h1,dB h1]
  rw[dw h1,dw h1];by_cases h2:j<6
  ·rw[dB h2,dB h2]
  rw[dw h2,dw h2];by_cases h3:j<9
  ·rw[dB h3,dB h3]
  rw[dw h3,dw h3];by_cases h4:j<12
  ·rw[dB h4,dB h4,fB bQ]
  rw[dw h4,dw h4]
theorem aGR{d:HD}{Cs:Nat→Nat}{qs:Nat→Value}(x:Int):∀ j,j<13→upd (EW d Cs qs) 12 (aU x) j=EW { d with time:=x} Cs qs j:=by
 intro j hj;by_cases e:j=12
 ·subst e;rw[upd_same];rfl
 ·rw[fB e];unfold EW;simp only;by_cases h1:j<3
  ·rw[dB h1,dB h1]
  rw[dw h1,dw h1];by_cases h2:j<6
  ·rw[dB h2,dB h2]
  rw[dw h2,dw h2];by_cases h3:j<9
  ·rw[dB h3,dB h3]
  rw[dw h3,dw h3,dB bQ,dB bQ]
theorem aNR{d:HD}{Cs:Nat→Nat}{qs:Nat→Value}{k:Nat}(hk:k<3)(q:List (Nat→Int))(v:Value):∀ j,j<13→upd (EW d Cs qs) (3+k) v j=EW { d with q:=upd d.q k q} Cs (upd qs k v) j:=by
 intro j hj;by_cases e:j=3+k
 ·subst e;rw[upd_same,agV hk,upd_same]
 ·rw[fB e];unfold EW;simp only;by_cases h1:j<3
  ·rw[dB h1,dB h1]
  rw[dw h1,dw h1];by_cases h2:j<6
  ·rw[dB h2,dB h2,fB bQ]
  rw[dw h2,dw h2]
theorem xX.apb(h:xX w R d Cs vs qs dO){k:Nat}(hk:k<3)(hf:dQ (fun b=>(qs k).ownBlock=some b) w w'){q':List (Nat→Int)}{v':Value}(hq:DW w' q' v')
  (hown:(∀ b,v'.ownBlock=some b→(qs k).ownBlock=some b)∨∀ b,v'.ownBlock=some b→w.heap.size≤b) :
  xX (w'.setCell ⟨R,3+k,none⟩ v') R { d with q:=upd d.q k q'} Cs vs (upd qs k v') dO∧dQ (qo R Cs qs dO) w (w'.setCell ⟨R,3+k,none⟩ v')∧∀ b,qo R Cs (upd qs k v') dO b→qo R Cs qs dO b∨w.heap.size≤b:=by
 have tq:∀ b,(qs k).ownBlock=some b→Typed w b 34:=(h.queue k hk).typed;have noQ:∀ {b:Nat} {t:TypeId},Typed w b t→t≠34→¬(qs k).ownBlock=some b:=fun ht n1 e=>n1 (ht.same (tq _ e));have hRf:w'.heap[R]?=w.heap[R]?:=hf.block R h.typed.lt (noQ h.typed dS);have hTR:Typed w' R 46:=by obtain⟨c,hc⟩:=h.typed;exact⟨c,hRf.trans hc⟩
 have hfs:=D5 w' R (3+k) v';have noR:∀ {b:Nat} {t:TypeId},Typed w' b t→t≠46→¬b=R:=fun ht n1 e=>n1 ((e▸ht).same hTR);have apc:∀ b,v'.ownBlock=some b→(qs k).ownBlock=some b∨w.heap.size≤b:=fun b hb=>by
  rcases hown with x|x
  ·exact .inl (x b hb)
  ·exact .inr (x b hb)
 refine⟨⟨?_,Qm hTR _ _,fun j hj=>?_,fun j hj=>?_,h.agp,fun i j b hi hj ne ei ej=>?_⟩,(hf.mono fun b _ hb=>.inr ⟨k,hk,.inr hb⟩).trans (hfs.mono fun b _ hb=>.inl hb),fun b hb=>?_⟩
 ·exact((h.img.of_block hRf).set bQ v').congr (aNR hk q' v')
 ·have h1:=(h.chain j hj).fG hf (fun b hb e=>by
   rcases iT.kind (h.chain j hj) hb with hb|hb
   ·exact noQ hb dS e
   ·exact noQ hb dS e) (fun b ht=>noQ ht dS) (fun b ht=>noQ ht dS)
  refine h1.fG hfs (fun b hb=>?_) (fun b ht=>noR ht dS) (fun b ht=>noR ht dS);rcases iT.kind h1 hb with hb|hb
  ·exact noR hb dS
  ·exact noR hb dS
 ·by_cases e:j=k
  ·subst e;simp only[upd_same];exact hq.fG hfs fun b hb=>noR (hq.typed b hb) dS
  ·simp only[fB e];have h1:=(h.queue j hj).fG hf (fun b hb hq=>h.Td j k b hj hk e hb hq);exact h1.fG hfs fun b hb=>noR (h1.typed b hb) dS
 ·exact axZ
 ·exact ax0
end
end Go.Proofs.YtglilddlhibogaaGreatDoor.W
namespace Go.Proofs.YtglilddlhibogaaGreatDoor.W
open Go.RowKit Go.Proofs.YtglilddlhibogaaGreatDoor.P
def lenV:Value→Nat
 |.slice _ n _=>n
 |_=>0
theorem aKX{w:World}{D:Nat}{d:HD}{vs qs:Nat→Value}{dO:Nat→List (HP × Value)}(h:lC w D d vs qs dO)(hg:vY w)(hgo:¬kQ D vs qs 5)
  (hleft:∀ k,k<3→-1000000000000≤d.left k∧d.left k≤1000000000000) (hmay:∀ k,k<3→0≤d.may k∧d.may k≤1000) (aCX:-1000000000≤d.time∧d.time≤1000000000) (hq:∀ k,k<3→(d.q k).length≤20) :
  Calls Tryz.prog 28 #[.pointer (some ⟨D,0,none⟩)] w fun e w'=>∃ y iW iP L,e=.returned y∧wS w D vs qs d.round d.done y iW iP L w':=by
 have HR0:=bW (show wS w D vs qs (sW d 0) (Vt d 0) (.slice none 0 0) qs dO [] w from⟨h,X4.zero _ _,rfl,dQ.refl _ _,fun b hb=>.inl hb⟩);have HG:=bW hg;have HGO:=bW hgo;have HL:=bW hleft;have HM:=bW hmay;have HQ:=bW hq;have HT:=bW aCX;have hgw:5<w.heap.size:=block_lt_of_cell hg;clear h hg hgo hleft hmay hq aCX;go_enter Tryz.func28,Tryz.ntmps28;go_wp2_with fail;go_loopw [7,3] (fun x y wr=>∃ (k:Nat) (iW:Nat→Value) (iP:Nat→List (HP × Value)) (L:List (Int × Sd × Value)),k≤3∧x=aU k∧wS w D vs qs (sW d k) (Vt d k) y iW iP L wr) (fun x _ _=>3-(intOf x).toNat)
 case atStart=>exact⟨0,qs,dO,[],by omega,rfl,HR0.out⟩
 case round =>
  obtain⟨k,iW,iP,L,hk,rfl,hR⟩:=hrel;obtain⟨oy,cy,rfl⟩:=pI hR.Kz.row;have HR:=bW hR;clear hR HR0;by_cases hk3:k<3
  ·have k4:(k:Int)<3:=bQ;have hkp:=aqT d k k (Nat.le_refl _);have hl0:=HL.out k hk3;have hm0:=HM.out k hk3;have hq0:=HQ.out k hk3;have htk:=aCY d HQ.out k hk;have hlk:=aqU d HQ.out k hk;have ht0:=HT.out;rw[←hkp.1]at hl0;rw[←hkp.2.1]at hq0;have e12:wr.cell? ⟨D,12+k,none⟩=some (aU ((sW d k).left k)):=(HR.out.iQ.img.cell (12+k) bQ).trans (congrArg some (apd hk3));have e9:wr.cell? ⟨D,9+k,none⟩=some (aU ((sW d k).may k)):=(HR.out.iQ.img.cell (9+k) bQ).trans (congrArg some (aGF hk3));have g12:=HR.out.iQ.img.free (12+k) bQ;rw[←hkp.2.2]at hm0;obtain⟨dn,hdn⟩:∃ dn,Vt d k=dn:=⟨_,rfl⟩;obtain⟨dk,hdk⟩:∃ dk,sW d k=dk:=⟨_,rfl⟩;have HE:=bW (show sW d (k+1)=dk.after k∧Vt d (k+1)=dn++dk.aa5 k by subst hdn;subst hdk;exact⟨rfl,rfl⟩);rw[hdk]at hl0 hq0 hm0 htk e12 e9;rw[hdn]at hlk;have HR2:=bW (show wS w D vs qs dk dn (.slice oy L.length cy) iW iP L wr by subst hdk;subst hdn;exact HR.out);have HS0:=bW (SOk.start (d:=dk) (k:=k) bQ bQ hm0.1 hm0.2);have aPu:dk.time≤1000000060:=bQ;have htl:-1000000000≤dk.time:=bQ;clear hkp ht0 htk hdk hdn HR;have hw:IntKind.i64.wrap (dk.left k+dk.may k)=dk.left k+dk.may k:=X0;go_upto_region 5 with fail;go_cut [10] (fun _ W=>wS w D vs qs (CV dk k (Qp dk k)) dn (.slice oy L.length cy) iW iP L W)
   case first =>
    go_region;go_wp2_with fail;go_meet
    go_light;have:=HR2.out.left hk3 (dk.left k+dk.may k);rw[aKY]at this;exact this.later (Below.refl _ _).drew
   case rest =>
    obtain⟨wx,hwx⟩:∃ x,x=wc:=⟨_,rfl⟩;subst hwx;have HX:=bW hcut;clear hcut e12 e9 g12 hw HR2;go_wp2_with fail;go_loopw [3] (fun y wr=>∃ (s:HS) (iW:Nat→Value) (iP:Nat→List (HP × Value)) (L:List (Int × Sd × Value)),SOk dk k s∧wS w D vs qs (CV dk k s) (dn++s.done.map fun t=>((k:Int),t)) y iW iP L wr) (fun y _=>100-lenV y)
    case atStart=>exact⟨_,_,_,_,HS0.out,by simpa[Qp]using HX.out⟩
    case round =>
     obtain⟨s,Vz,Ik,L2,hS,hR2⟩:=hrel;obtain⟨oy,cy,rfl⟩:=pI hR2.Kz.row;have hq2:=hR2.iQ.queue k hk3;rw[aKZ]at hq2;have X5:wr.cell? ⟨D,6+k,none⟩=some (Vz k):=(hR2.iQ.img.cell (6+k) bQ).trans (congrArg some (ame hk3));have cl0:wr.cell? ⟨D,12+k,none⟩=some (aU s.left):=(hR2.iQ.img.cell (12+k) bQ).trans (congrArg some ((apd hk3).trans (by rw[aCZ])));have hLl:L2.length=dn.length+s.done.length:=by have:=congrArg List.length hR2.eq;simpa using this
     have HR3:=bW hR2;have HS:=bW hS;have Yw:=bW hq2;have HFW:=bW hS.few;have HLL:=bW hLl;clear hLl;clear hR2 hS hq2 HX HS0;by_cases hc:0<s.q.length∧0<s.left
     ·obtain⟨hc1,hc2⟩:=hc;obtain⟨e,r,her⟩:∃ e r,s.q=e::r:=by
       cases hx:s.q with
       |nil=>rw[hx]at hc1;simp at hc1
       |cons e r=>exact⟨e,r,rfl⟩
      have hQ:=Yw.out;rw[her]at hQ;obtain⟨g,o,cap,yZ,hcp1,hcp2,X6,htail⟩:=hQ.tail;rw[yZ]at X5;have kq:(0:Int)<((r.length+1:Nat):Int):=bQ;have q0:wr.cell? ⟨g,o*8,none⟩=some (aU (e 0)):=X6 0 _ rfl;have q1:wr.cell? ⟨g,o*8+1,none⟩=some (aU (e 1)):=X6 1 _ rfl;have q2:wr.cell? ⟨g,o*8+2,none⟩=some (aU (e 2)):=X6 2 _ rfl;have q3:wr.cell? ⟨g,o*8+3,none⟩=some (aU (e 3)):=X6 3 _ rfl;have q4:wr.cell? ⟨g,o*8+4,none⟩=some (aU (e 4)):=X6 4 _ rfl;have q5:wr.cell? ⟨g,o*8+5,none⟩=some (aU (e 5)):=X6 5 _ rfl;have q6:wr.cell? ⟨g,o*8+6,none⟩=some (aU (e 6)):=X6 6 _ rfl;have q7:wr.cell? ⟨g,o*8+7,none⟩=some (aU (e 7)):=X6 7 _ rfl;have HTL:=bW htail;have HER:=bW her;clear htail X6 hQ her;go_upto_region 8 with fail;generalize hW:World.alloc wr _=w1;have hb1:Below wr.heap.size wr w1:=hW▸(Below.refl wr.heap.size wr).alloc (Nat.le_refl _) _;have IE:=bW (show P.Img w1 wr.heap.size 8 (i8 e)from hW▸Img.mk' (heap_alloc_new wr _) dF);have TE:=bW (show Typed w1 wr.heap.size 125 from⟨_,hW▸heap_alloc_new wr _⟩);have HR4:=bW (HR3.out.later hb1);have aC0:=bW (HTL.out.fG (M:=fun _=>False) (dQ.of hb1) (fun _ _=>id));have cq1:w1.cell? ⟨D,6+k,none⟩=some (.slice (some ⟨g,o*8,none⟩) (r.length+1) cap):=(hb1.cell (p:=⟨D,6+k,none⟩) (HR3.out.iQ.typed.lt)).trans X5;have Ep:w1.frozen? ⟨D,6+k,none⟩=false:=HR4.out.iQ.img.free (6+k) bQ;have nE:¬D=wr.heap.size:=by have:=HR3.out.iQ.typed.lt;omega
      have an1:=bW (show cap=1→Et w1 r (.slice (some ⟨g,o*8,none⟩) r.length 0)from fun h1=>by
       subst h1
       have:=Yw.out
       rw[HER.out,yZ]at this
       exact this.last.fG (M:=fun _=>False) (dQ.of hb1) (fun _ _=>id))
      have HQV:=bW yZ;have aPv:=bW (show cap=1→True from fun _=>trivial);clear hb1 hW q0 q1 q2 q3 q4 q5 q6 q7 X5 cl0 yZ HTL Yw;go_cut [51] (fun _ W=>∃ v',wS w D vs qs { CV dk k s with q:=upd (CV dk k s).q k r} (dn++s.done.map fun t=>((k:Int),t)) (.slice oy L2.length cy) (upd Vz k v') Ik L2 W∧dQ (fun b=>b=D) w1 W)
      case first =>
       go_region;go_wp2_with fail
       ·go_meet
        go_light;exact⟨_,(HR4.out.tail hk3 (an1.out bQ) (fun b hb=>by rw[HQV.out];exact hb)).later (Below.refl _ _).drew,(D5 _ _ _ _).trans (dQ.of (Below.refl _ _).drew)⟩
       ·go_meet
        go_light;exact⟨_,(HR4.out.tail hk3 (by have:=aC0.out;rw[show(o+1)*8=o*8+8 by omega]at this;exact this) (fun b hb=>by rw[HQV.out];exact hb)).later (Below.refl _ _).drew,(D5 _ _ _ _).trans (dQ.of (Below.refl _ _).drew)⟩
      case rest =>
       obtain⟨v',Oj,hF5⟩:=hcut;obtain⟨w2,hw2⟩:∃ x,x=wc:=⟨_,rfl⟩;subst hw2;have Ij:=bW Oj;have hws:=Oj.fG.size;have nW:wr.heap.size<w2.heap.size:=Nat.lt_of_lt_of_le (IE.out.lt bQ) hF5.size;have IE2:=bW (hF5.img IE.out bQ (fun e=>nE e.symm));have TE2:=bW (TE.out.aK1 hF5 (fun e=>nE e.symm));have ID2:=bW Oj.iQ.img;have hch:uP w2 s.c (vs k) (Ik k):=by have:=Oj.iQ.chain k hk3;simp only[aC1]at this;exact this
       have c0:w2.cell? ⟨D,k*2,none⟩=some (vs k):=(Oj.iQ.img.cell (k*2) bQ).trans (congrArg some (Yq hk3).1);have hDs:D<w2.heap.size:=Oj.iQ.typed.lt;have hVT:=kD hch.row;have hVD:(vs k).ownBlock≠some D:=fun e=>((hVT D e).ne Oj.iQ.typed dS) rfl;have hVE:(vs k).ownBlock≠some wr.heap.size:=fun e=>((hVT _ e).ne TE2.out dS) rfl;have HVD:=bW hVD;have HVE:=bW hVE;have hVl:∀ b,(vs k).ownBlock=some b→b<w2.heap.size:=fun b hb=>(hVT b hb).lt;have HVL:=bW hVl;have hge:=Oj.aK2 hgw HGO.out hk3;have herr:vY w2:=Oj.fG.cell HG.out HGO.out;have hs8:s.c.l.length≤8:=by rw[←hch.l,List.length_map];exact hch.short
       have RUN:=fun W (hb:Below w2.heap.size w2 W)=>aC2 (hch.fG (M:=fun _=>False) (dQ.of hb) (fun _ _=>id) (fun _ _=>id)) D (k*2) ((hb.cell (p:=⟨D,k*2,none⟩) hDs).trans c0) hVD e s.time (herr.later hb) hge;obtain⟨X,hX⟩:∃ X,hrun e s.time s.c.l .zero=X:=⟨_,rfl⟩;rw[hX]at RUN;have HX:=bW hX;have n3:¬wr.heap.size=w2.heap.size:=bQ;have n4:¬D=w2.heap.size:=bQ;obtain⟨l',sd⟩:=X;simp only at RUN;unfold t8 at RUN;have wV:=bW RUN;clear RUN hX Oj hF5 hch c0 hVD hVE hVT hVl hge herr IE TE HR4 cq1 Ep;go_upto_region 9 with fail;go_cut [6] (fun y W=>∃ (m:Nat) (out:Value) (LH:List (HP × Value)),y=.pointer (some ⟨m,0,none⟩)∧w2.heap.size≤m∧P.Img W m 4 (i4 sd.oW sd.num out sd.steps)∧W.ownsRow w2.heap.size 2 1 out sd.out.length (sd.out.map (Value.int .i64))∧uP W ⟨l',s.c.next⟩ (vs k) LH∧dQ (fun b=>(vs k).ownBlock=some b) w2 W)
       case first =>
        go_region_held3 (fun W=>W.cell? ⟨wr.heap.size,0,none⟩=some (aU (e 0))∧W.cell? ⟨wr.heap.size,1,none⟩=some (aU (e 1))∧W.cell? ⟨wr.heap.size,2,none⟩=some (aU (e 2))∧W.cell? ⟨wr.heap.size,3,none⟩=some (aU (e 3))∧W.cell? ⟨wr.heap.size,4,none⟩=some (aU (e 4))∧W.cell? ⟨wr.heap.size,5,none⟩=some (aU (e 5))∧W.cell? ⟨wr.heap.size,6,none⟩=some (aU (e 6))∧W.cell? ⟨wr.heap.size,7,none⟩=some (aU (e 7))∧W.cell? ⟨D,15,none⟩=some (aU s.time))
         (first|exact akJ IE2.out ID2.out|exact akJ (IE2.out.alloc _) (ID2.out.alloc _)|exact akJ IE5.out ID5.out|exact akJ (IE5.out.alloc _) (ID5.out.alloc _)|exact akJ (QC (IE5.out.alloc _) n1) (QC (ID5.out.alloc _) n2)|exact akJ (QC IE5.out n3) (QC ID5.out n4))
         (first
          |(go_at_call 30;refine(wV.out _ ?_).mono ?_;(repeat' (first|with_reducible exact Below.refl _ _|with_reducible refine Below.drew ?_|with_reducible refine Below.alloc ?_ ?_ _|(simp;done)|omega));rintro e5 w5 ⟨out,LH,he5,vZ,an2,hf5⟩;obtain⟨yG,cap5,rfl⟩:=pI vZ;obtain⟨arr,agj⟩:∃ arr:Array Value,(#[aU sd.oW,aU sd.num,.slice yG sd.out.length cap5,aU sd.steps]:Array Value)=arr:=⟨_,rfl⟩;rw[agj]at he5;subst he5;have harr:arr.toList=[aU sd.oW,aU sd.num,.slice yG sd.out.length cap5,aU sd.steps]:=(by rw[←agj]);clear agj;have EX:=bW harr;have hsz:arr.size=4:=ant;have hone:∀ v∈arr.toList,v.oneCell'=true:=(by rw[harr];exact asP _ _ _ _ _ _);have aC3:=WJ (P:=Tryz.prog) (w:=w5.alloc (.cells #[aU 0,aU 0,.slice none 0 0,aU 0] 96)) (b:=w5.heap.size) (arr:=arr) aql hone;clear harr;have hF:dQ (fun b=>(vs k).ownBlock=some b) w2 w5:=dQ.trans (dQ.of am7) hf5;have ZJ:=bW hF;have yj:=bW (World.ownsRow.mono (base':=w2.heap.size) vZ anr);have an3:=bW an2;have IE5:=bW (hF.img IE2.out bQ HVE.out);have ID5:=bW (hF.img ID2.out bQ HVD.out);have hz5:=hF.size;(try have EI:=bW (aK3 (avt (w:=w2) (t:=96) (c:=#[aU 0,aU 0,.slice none 0 0,aU 0]) (n:=4) rfl) hf5 (fun h=>by have:=HVL.out _ h;omega) dY);have aC4:=WJ (P:=Tryz.prog) (w:=w5) (b:=w2.heap.size) (arr:=arr) (by rw[hsz];exact EI.out) hone;have Ze:=bW (show Typed w5 w2.heap.size 96 from⟨_,(hf5.block w2.heap.size dY (fun h=>by have:=HVL.out _ h;omega)).trans (heap_alloc_new w2 _)⟩));have n1:¬wr.heap.size=w5.heap.size:=bQ;have n2:¬D=w5.heap.size:=bQ;clear hF an2 hf5 vZ))
        ·go_wp2_with fail;go_meet
         go_light;obtain⟨x1,x2,x3⟩:=aC5 (W:=(w5.alloc (.cells #[aU 0,aU 0,.slice none 0 0,aU 0] 96)).setCells w5.heap.size 0 arr.toList) (m:=w5.heap.size) ZJ.out yj.out an3.out (((dQ.of ((Below.refl w5.heap.size w5).alloc (Nat.le_refl _) _) (M:=fun b=>b=w5.heap.size))).trans (DY _ _ _ _)) hz5 HVL.out (fun b hb=>by have:=(yj.out.lt b hb).2;omega) (fun b hb=>by have:=hb.lt;omega);refine⟨w5.heap.size,_,LH,rfl,hz5,?_,x1,x2,x3⟩;have:=agY (w:=w5.alloc (.cells #[aU 0,aU 0,.slice none 0 0,aU 0] 96)) (b:=w5.heap.size) (vs:=arr.toList) (by rw[EX.out];exact afY rfl);exact aqs
        ·go_wp2_with fail;go_meet
         go_light;obtain⟨x1,x2,x3⟩:=aC5 (W:=w5.setCells w2.heap.size 0 arr.toList) (m:=w2.heap.size) ZJ.out yj.out an3.out (DY _ _ _ _) (Nat.le_refl _) HVL.out (fun b hb=>(kD yj.out b hb).ne Ze.out dS) (fun b hb=>hb.ne Ze.out dS);refine⟨w2.heap.size,_,LH,rfl,Nat.le_refl _,?_,x1,x2,x3⟩;have:=agY (w:=w5) (b:=w2.heap.size) (vs:=arr.toList) (by rw[EX.out];exact EI.out);exact aqs
       case rest =>
        obtain⟨m,out,LH,rfl,hm,IM,hrow,hch,hf⟩:=hcut;obtain⟨w3,hw3⟩:∃ x,x=wc:=⟨_,rfl⟩;subst hw3;obtain⟨oo,co,rfl⟩:=pI hrow;have hR6:=Ij.out.ran hk3 hf hch (by show s.c.next=((CV dk k s).c k).next;rw[aC1]);have ct:w3.cell? ⟨D,15,none⟩=some (aU s.time):=hR6.iQ.img.cell 15 bQ;have gt:w3.frozen? ⟨D,15,none⟩=false:=hR6.iQ.img.free 15 bQ;have hst:=ahi e s.time s.c.l .zero;rw[HX.out]at hst;have z0:Sd.zero.steps=0:=rfl;rw[z0]at hst;simp only at hst;have hSt:=HS.out.time;rw[HER.out,List.length_cons]at hSt;have hSs:=HS.out.since;have hSl:=HS.out.lo;have hSh:=HS.out.hi;have hw1:IntKind.i64.wrap (s.time+1)=s.time+1:=X0;have hmD:¬m=D:=bQ;have HR6:=bW hR6;have ado:=bW hrow;have IM6:=bW IM;have hD3:D<w3.heap.size:=hR6.iQ.typed.lt;clear hR6 hrow hch hf IM wV Ij an1 HQV aC0 HVD HVE HVL IE2 TE2 ID2;go_upto_region 11 with fail;clear ct gt hw1;have ZO:=HR6.out.time (s.time+1);have ZP:=D5 w3 D 15 (aU (s.time+1));have Oo:=ZP.img IM6.out bQ hmD;have hW7:=ZP.row ado.out (fun b hb e=>by have:=(ado.out.lt b hb).1;omega);generalize World.setCell w3 _ _=w4 at ZO ZP Oo hW7 ⊢;have cl4:w4.cell? ⟨D,12+k,none⟩=some (aU s.left):=(ZO.iQ.img.cell (12+k) bQ).trans (congrArg some ((apd hk3).trans (by show aU ((CV dk k s).left k)=_;rw[aCZ])));have gl4:=ZO.iQ.img.free (12+k) bQ;have cm3:w4.cell? ⟨m,3,none⟩=some (aU sd.steps):=Oo.cell 3 bQ;have hw2:IntKind.i64.wrap (sd.steps+1)=sd.steps+1:=X0
        have hw3:IntKind.i64.wrap (s.left-(sd.steps+1))=s.left-(sd.steps+1):=X0;have HR7:=bW ZO;have ZR:=bW hW7;have IM7:=bW Oo;have hz7:=ZP.size;clear ZO ZP Oo hW7 HR6 ado IM6;go_cut [82] (fun _ W=>wS w D vs qs (CV dk k (s.one e r)) (dn++s.done.map fun t=>((k:Int),t)) (.slice oy L2.length cy) (upd Vz k v') (upd Ik k LH) L2 W∧dQ (fun b=>b=D) w4 W)
        case first =>
         go_region;go_wp2_with fail;go_meet
         go_light;have:=(HR7.out.left hk3 (s.left-(sd.steps+1))).later (Below.refl _ _).drew;refine⟨?_,(D5 _ _ _ _).trans (dQ.of (Below.refl _ _).drew)⟩;rw[←aK4,HX.out];exact this
        case rest =>
         obtain⟨hR8,hF8⟩:=hcut;obtain⟨w5,hw5⟩:∃ x,x=wc:=⟨_,rfl⟩;subst hw5;have Fq:=hF8.img IM7.out bQ hmD;have hW8:=hF8.row ZR.out (fun b hb e=>by have:=(ZR.out.lt b hb).1;omega);refine aAH ?_;intro x0 x1 x2 x3;have hll:=HLL.out;have hfw:=HFW.out;have aK5:L2.length≤80:=bQ;have hbA:Below w5.heap.size w5 (w5.alloc (.cells #[aU k,aU sd.oW,aU sd.num,.slice oo sd.out.length co,aU sd.steps] 98)):=(Below.refl w5.heap.size w5).alloc (Nat.le_refl _) _;have Yf:=hR8.later hbA;obtain⟨v9,w9,hap,hd9,hg9⟩:=aK6 w.heap.size L2 (.slice oy L2.length cy) ((k:Int),sd,.slice oo sd.out.length co) w5.heap.size 1 _ (Nat.le_trans hR8.fG.size hbA.size) Yf.Kz
          (World.ownsRow.mono (ED hW8 hbA) (hws)) (fun j u hj=>(cell_of_row _ w5.heap.size j _ _ (0,0) (heap_alloc_new w5 _)).trans (by simpa[LG]using hj)) bQ
         obtain⟨KD,JK,rfl⟩:=pI hd9.row;have an4:=Yf.add hd9 hg9;have avu:=bW an4;have HAP:=bW hap;have HS1:=bW (HS.out.one HER.out hc2 hs8);clear hll hfw hR8 hF8 Fq hW8 hbA Yf hd9 hg9 an4 hap HR7 ZR IM7 hw2 hw3 cl4 gl4 cm3;go_wp2_with (at_builtin;refine akB _ rfl _ _ 92 92 rfl _ _ rfl rfl HAP.out ?_);refine⟨⟨s.one e r,upd Vz k v',upd Ik k LH,L2++[((k:Int),sd,.slice oo sd.out.length co)],HS1.out,?_⟩,?_⟩
         ·refine aBB ?_;intro hl;have:=avu.out;rw[List.length_append]at this;exact this
         ·show 100-(L2.length+1)<100-L2.length;omega
     ·have hstop:s.q=[]∨¬0<s.left:=by
       exact aA9
      have hT:=(aC6 hstop).symm.trans HS.out.drain;have aC7:=bW (show dn++(s.done.map fun t=>((k:Int),t))=dn++dk.aa5 k by rw[hT];rfl);have aC8:=bW (show({ CV dk k s with left:=upd (CV dk k s).left k s.rest}:HD)=dk.after k by rw[hT];exact aK7 dk k);obtain⟨oq,cq,yZ⟩:=Yw.out.form;rw[yZ]at X5;by_cases h0:s.q=[]
      ·have hrest:s.rest=min s.left 0:=by unfold P.HS.rest;rw[dB h0]
       have an5:=bW hrest;rw[h0,List.length_nil]at X5;have gl0:=HR3.out.iQ.img.free (12+k) bQ;clear hstop hT hc yZ hrest;go_upto_region 14 with fail;go_region;go_wp2_with fail;refine⟨⟨k+1,Vz,Ik,L2,by omega,by go_num,?_⟩,?_⟩
       ·have:=(HR3.out.left hk3 s.rest).later (Below.refl _ _).drew;rw[aC8.out,aC7.out,an5.out]at this;rw[HE.out.1,HE.out.2];exact this
       ·exact apK
      ·have hrest:s.rest=s.left:=by unfold P.HS.rest;rw[dw h0]
       have hq1:0<s.q.length:=by
        cases hx:s.q with
        |nil=>exact absurd hx h0
        |cons e r=>simp
       have hl0:¬0<s.left:=fun h2=>hc ⟨hq1,h2⟩;have HK:=bW (aK8 dk k s (.inr trivial) hrest);have kq1:(0:Int)<(s.q.length:Int):=bQ;have kq2:¬(s.q.length:Int)=0:=bQ;clear hstop hT hc yZ hrest;go_wp2_with fail;refine⟨⟨k+1,Vz,Ik,L2,by omega,by go_num,?_⟩,?_⟩
       ·have:=HR3.out;rw[←HK.out,aC8.out,aC7.out]at this;rw[HE.out.1,HE.out.2];exact this
       ·exact apK
  ·exact aC9
end Go.Proofs.YtglilddlhibogaaGreatDoor.W
