/- A part of the proof; each theorem states its conditions. -/
import Derived.Test.YtglilddlhibogaaGreatDoorW3
import Derived.Test.YtglilddlhibogaaGreatDoorW5
import Derived.Test.YtglilddlhibogaaGreatDoorW7
set_option linter.unusedSimpArgs false
set_option linter.unusedVariables false
set_option maxRecDepth 100000
set_option maxHeartbeats 100000000
namespace Go.Proofs.YtglilddlhibogaaGreatDoor.W
open Go.RowKit Go.Proofs.YtglilddlhibogaaGreatDoor.P
def afm(n bs:Nat)(s:VS)(t:Step)(pc q:Nat)(er:Int)(s2:VS)(w:World):Prop :=
 (er=0∧pc<q∧q<n∧kG s2∧P.Img w bs 81 (gQ fV s2)∧s.step t pc=.go (some (s2,(q:Int))) none)∨(er≠0∧s.step t pc=.err er)
theorem afm.pair{n bs:Nat}{s s2:VS}{t:Step}{pc q:Nat}{er:Int}{w:World}(hs:s.step t pc=if er≠0 then .err er else .go (some (s2,(pc:Int)+1)) none)
  (hq:q=pc+1) (hn:pc+1<n) (hm:kG s2) (ha:P.Img w bs 81 (gQ fV s2)):afm n bs s t pc q er s2 w:=by
 subst hq;by_cases he:er=0
 ·exact .inl ⟨he,by omega,hn,hm,ha,by rw[hs,dw aeJ];push_cast;rfl⟩
 ·exact .inr ⟨he,by rw[hs,dB he]⟩
theorem aJE(s:VS)(d sr:Nat)(r:Bool)(o nn pc:Int):s.step ⟨25,d,sr,r,o,nn⟩ pc=if(s.load (s.regs sr) o).2≠0 then .err (s.load (s.regs sr) o).2 else .go (some ({ s with regs:=upd s.regs d (s.load (s.regs sr) o).1},pc+1)) none:=by
 unfold VS.step;simp[VS.gu]
theorem aJF(s:VS)(d sr:Nat)(r:Bool)(o nn pc:Int):s.step ⟨26,d,sr,r,o,nn⟩ pc=if(s.store (s.regs d) o (s.second ⟨26,d,sr,r,o,nn⟩)).2≠0 then .err (s.store (s.regs d) o (s.second ⟨26,d,sr,r,o,nn⟩)).2 else .go (some ((s.store (s.regs d) o (s.second ⟨26,d,sr,r,o,nn⟩)).1,pc+1)) none:=by
 unfold VS.step;simp
theorem agh(s:VS)(d sr:Nat)(r:Bool)(o nn pc:Int):s.step ⟨27,d,sr,r,o,nn⟩ pc=if(s.call nn).2≠0 then .err (s.call nn).2 else .go (some ((s.call nn).1,pc+1)) none:=by
 unfold VS.step;simp
theorem aJG(s:VS)(c:Int)(hc:c≤13)(d sr:Nat)(r:Bool)(o nn pc:Int)(hn:c=13→r=false∧nn=0):s.step ⟨c,d,sr,r,o,nn⟩ pc=if(qJ c (s.regs d) (s.second ⟨c,d,sr,r,o,nn⟩)).2≠0 then .err (qJ c (s.regs d) (s.second ⟨c,d,sr,r,o,nn⟩)).2 else .go (some ({ s with regs:=upd s.regs d (qJ c (s.regs d) (s.second ⟨c,d,sr,r,o,nn⟩)).1},pc+1)) none:=by
 have ho:s.operand ⟨c,d,sr,r,o,nn⟩=s.second ⟨c,d,sr,r,o,nn⟩:=by
  unfold VS.operand;by_cases h:c=13
  ·obtain⟨h1,h2⟩:=hn h;rw[dB h,h1,h2];rfl
  ·rw[dw h]
 unfold VS.step;rw[ho];simp only[show¬c=28 by omega,show¬c=14 by omega,show¬(15≤c∧c≤24)by omega,show¬c=25 by omega,show¬c=26 by omega,show¬c=27 by omega,if_false];simp[VS.gu]
theorem aJH(s:VS)(c:Int)(hc:15≤c∧c≤24)(d sr:Nat)(r:Bool)(o nn pc:Int):s.step ⟨c,d,sr,r,o,nn⟩ pc=s.asks ⟨c,d,sr,r,o,nn⟩ pc:=by
 unfold VS.step;exact ap0
theorem aJI(s:VS)(d sr:Nat)(r:Bool)(o nn pc:Int):s.step ⟨14,d,sr,r,o,nn⟩ pc=.go (some (s,pc+1+o)) none:=by
 unfold VS.step;simp
theorem aJJ(s:VS)(d sr:Nat)(r:Bool)(o nn pc:Int):s.step ⟨28,d,sr,r,o,nn⟩ pc=if(s.regs 0).kind=1 then .done (s.regs 0).b else if(s.regs 0).kind=0 then .err 8 else .err 1:=by
 unfold VS.step;simp
def QF(f:Nat→Wh)(k:Nat):Nat→Wh:=fun j=>if 1≤j∧j<k then Wh.nil else f j
theorem agi(f:Nat→Wh):QF f 1=f:=by funext j;unfold QF;rw[dw bQ]
theorem aFs(f:Nat→Wh){k:Nat}(hk:1≤k):upd (QF f k) k Wh.nil=QF f (k+1):=by
 funext j
 by_cases h:j=k
 ·subst h;rw[upd_same];unfold QF;rw[dB bQ]
 ·rw[fB h];unfold QF;exact auv
def aCs(n:Int):Wh:=if n=1 then⟨5,eH 0⟩else if n=3 then .num (eH 0)else .num fP
def QG(s:VS)(n:Int):VS:={ s with regs:=QF (upd s.regs 0 (aCs n)) 6}
theorem akC{s:VS}{n:Int}(h:n=2∨(s.regs 1).kind=1):s.call n=(QG s n,0):=by
 unfold VS.call QG;rw[dw bQ,dw bQ];congr 2
 funext j
 unfold QF;by_cases h0:j=0
 ·subst h0;simp[upd,aCs]
 ·rw[dw h0,fB h0];simp only[Nat.lt_succ_iff]
theorem aqE{s:VS}{n:Int}(h:n≠2)(h1:(s.regs 1).kind≠1):(s.call n).2=if(s.regs 1).kind=0 then 8 else 1:=by
 unfold VS.call;by_cases h0:(s.regs 1).kind=0
 ·rw[dB ⟨h,h0⟩,dB h0]
 ·rw[dw bQ,dw h0,dB ⟨h,h1⟩]
theorem aJK{w:World}{b:Nat}{s:VS}(h:P.Img w b 81 (gQ fV s)){j r:Nat}(hr:r<16)(hj:j=11+r)(x:Wh) :
  P.Img (((w.setCell ⟨b,j*3,none⟩ (.int .u8 (letter x.kind))).setCell ⟨b,j*3+1,none⟩ (aU x.b.lo)).setCell ⟨b,j*3+2,none⟩ (aU x.b.hi)) b 81 (gQ fV { s with slots:=upd s.slots r x}):=by
 have e:j*3=33+r*3:=bQ;have K:=(((h.set (j:=33+r*3) bQ (fV x 0)).set (j:=33+r*3+1) bQ (fV x 1)).set (j:=33+r*3+2) bQ (fV x 2)).congr (aCt hr x);rw[e];exact K
theorem acA{w:World}{b:Nat}{s:VS}(h:P.Img w b 81 (gQ fV s)){r:Nat}(hr:r<11)(x:Wh) :
  P.Img (((w.setCell ⟨b,r*3,none⟩ (.int .u8 (letter x.kind))).setCell ⟨b,r*3+1,none⟩ (aU x.b.lo)).setCell ⟨b,r*3+2,none⟩ (aU x.b.hi)) b 81 (gQ fV { s with regs:=upd s.regs r x}):=by
 have K:=(((h.set (j:=r*3) bQ (fV x 0)).set (j:=r*3+1) bQ (fV x 1)).set (j:=r*3+2) bQ (fV x 2)).congr (Oy hr x);exact K
theorem aJL{s:VS}{x y:Wh}{o L H er:Int}(hv:iD x o=(⟨L,H⟩,er))(he:er≠0):s.store x o y=(s,er):=by unfold VS.store;rw[hv];simp[he]
theorem aJM{s:VS}{x y:Wh}{o L H:Int}(hv:iD x o=(⟨L,H⟩,0))(k2:x.kind=2):s.store x o y=(s,6):=by unfold VS.store;rw[hv];simp[k2]
theorem aJN{s:VS}{x y:Wh}{o L H:Int}(hv:iD x o=(⟨L,H⟩,0))(k2:x.kind≠2)(y0:y.kind=0):s.store x o y=(s,8):=by unfold VS.store;rw[hv];simp[k2,y0]
theorem aJO{s:VS}{x y:Wh}{o L H:Int}(hv:iD x o=(⟨L,H⟩,0))(y0:y.kind≠0)(k4:x.kind=4)(y1:y.kind≠1):s.store x o y=(s,1):=by unfold VS.store;rw[hv];simp[k4,y0,y1]
theorem aJP{s:VS}{x y:Wh}{o L H:Int}(hv:iD x o=(⟨L,H⟩,0))(y0:y.kind≠0)(k4:x.kind=4)(y1:y.kind=1):s.store x o y=(s,0):=by unfold VS.store;rw[hv];simp[k4,y1]
theorem aJQ{s:VS}{x y:Wh}{o L H:Int}(hv:iD x o=(⟨L,H⟩,0))(k2:x.kind≠2)(y0:y.kind≠0)(k4:x.kind≠4)(h:L≠H):s.store x o y=(s,2):=by unfold VS.store;rw[hv];simp[k2,k4,y0,h]
theorem aJR{s:VS}{x y:Wh}{o L H:Int}(hv:iD x o=(⟨L,H⟩,0))(k2:x.kind≠2)(y0:y.kind≠0)(k4:x.kind≠4)(h:L=H):s.store x o y=({ s with slots:=upd s.slots (L+16).toNat y},0):=by unfold VS.store;rw[hv];simp[k2,k4,y0,h]
theorem aJS:((Tryz.prog).info? 127).map (fun i=>(i.zero,i.size,i.bytes))=some (some (.agg #[aU 0,aU 0]),2,16):=dF
theorem aJT(S:Nat→Step)(a:Addr)(n cap b:Nat)(hcap:n≤cap)(hn2:n≤200)(hab:a.block<b)(hgb:4<b)(Uh:∀ j,j<n→Ue n j (S j))(HWR:∀ j,j<n→(S j).wrong=0)(anS:∀ j,j<n→In64 (S j).off):∀ f,aw8 S a n cap b f:=by
 intro f;induction f with
 |zero=>intro s pc k v w hs hpc hf;omega
 |succ f ih =>
 intro s pc k v w hs hpc hf hk0 hk1 hkl hke hg hc hL;refine fU ?_;intro HW0;have hlt:=hL.lt;obtain⟨lk,en⟩:=k;simp only at hk0 hk1 hkl hke;obtain⟨lf,hlf⟩:∃ lf,lf=4000-lk:=⟨_,rfl⟩;have lf0:0≤lf:=bQ;have lf1:lf≤4000:=bQ;have c0:w.cell? ⟨b,0,none⟩=some (.slice (some a) n cap):=hL.img.cell 0 bQ;have c1:w.cell? ⟨b,1,none⟩=some (aU lf):=by rw[hlf];exact hL.img.cell 1 bQ
 have w1':=hL.img.free 1 bQ;have hin:In64 (S pc).num:=(Uh pc hpc).2.2;have hw:=HWR pc hpc;have hof:=anS pc hpc;obtain⟨R,hR⟩:∃ R,iO S (f+1) s pc ⟨lk,en⟩=R:=⟨_,rfl⟩;rw[hR];rw[agJ,Int.toNat_natCast]at hR;simp only at hR;have ht:=Uh pc hpc;generalize hT:S pc=t at *;have HTE:=bW hT;obtain⟨c,d,sr,r,o,nn⟩:=t;obtain⟨g1,g2,g3,g4⟩:=aeh hw;simp only at g1 g2 g3 g4 hin;obtain⟨d,rfl⟩:=Int.eq_ofNat_of_zero_le g2.1;obtain⟨sr,rfl⟩:=Int.eq_ofNat_of_zero_le g2.2.2.1;refine aoR ?_;intro dN sN d1 s1;have d27:(d:Int)<27:=bQ;have s27:(sr:Int)<27:=bQ;have pc1:(pc:Int)<n:=bQ;have pc2:(pc:Int)<200:=bQ;have pc0:(0:Int)≤pc:=bQ;have HL:=bW hL;have HIH:=bW ih;have HP:=bW Uh;have avd:=bW HWR;have Ho:=bW hke;have HS:=bW hs;have HC:=bW hc;have HG:=bW hg;have HTT:=bW ht;have HWW:=bW hw;have D6:Hid (In64 o):=hof;have HNB:=bW g4;have HLF:=bW hlf;have HR:=bW hR;clear hL ih hs hc hg ht hw hof hT Uh HWR anS hke g4 hlf hR;have hl1:b<w.heap.size+1:=bQ;have hl2:b<w.heap.size+1+1:=bQ;go_enter Tryz.func74,Tryz.ntmps74;go_upto_region 2 with fail;generalize hW0:World.setCell w ⟨b,1,none⟩ (aU (lf-1))=w0;have hs0:w0.heap.size=w.heap.size:=by rw[←hW0];simp
 have hL0:AY w0 b (.slice (some a) n cap) v ⟨lk+1,en⟩:=by
  rw[←hW0,show lf-1=4000-(lk+1)by have:=HLF.out;omega];exact HL.out.looked (lk+1)
 have hR0:Rest b v.ownBlock w w0:=hW0▸(Rest.refl _ _ _).but ((But.refl b w).setCell (.inl rfl) _) (.inl rfl);generalize hW:World.alloc (World.alloc w0 _) _=w1;have ave:Below w0.heap.size w0 w1:=hW▸((Below.refl _ _).alloc (Nat.le_refl _) _).alloc dY _;have IS:P.Img w1 w.heap.size 81 (gQ fV s):=by rw[←hW,←hs0];exact Img.al7.alloc _
 have IF:P.Img w1 (w.heap.size+1) 2 (fun _=>aU 0):=by rw[←hW,←hs0];exact Img.aas (by simpa using heap_alloc_new (World.alloc w0 _) _)
 have hL1:BL b (.slice (some a) n cap) v w v ⟨lk+1,en⟩ w1:=⟨hL0.later ave,hR0.later ave,fun g hg=>.inl hg⟩;clear hW0 hs0 hL0 hR0 ave;clear hW hl1 hl2 c0 c1 w1';have aj8:=bW IS;have akE:=bW IF;have HL1:=bW hL1;have zF:w.heap.size+1<w1.heap.size:=IF.lt bQ;have zS:w.heap.size<w1.heap.size:=bQ;clear IS IF hL1;have nF:v.ownBlock≠some (w.heap.size+1):=Ug HL.out bQ;have nS:v.ownBlock≠some w.heap.size:=Ug HL.out bQ;have HNF:=bW nF;have HNS:=bW nS;clear nF nS;have YJ:b<w1.heap.size:=HL1.out.look.lt;have c0:w1.cell? ⟨b,0,none⟩=some (.slice (some a) n cap):=HL1.out.look.img.cell 0 bQ;have c1:w1.cell? ⟨b,1,none⟩=some (aU (lf-1)):=by
  have:=HL1.out.look.img.cell 1 bQ;rw[show lf-1=4000-(lk+1)by have:=HLF.out;omega];exact this
 have r0:w1.cell? ⟨w.heap.size+1,0,none⟩=some (aU 0):=akE.out.cell 0 bQ;have r1:w1.cell? ⟨w.heap.size+1,1,none⟩=some (aU 0):=akE.out.cell 1 bQ;have t0:=akE.out.free 0 bQ;have t1:=akE.out.free 1 bQ;by_cases hl:4000<lk+1
 ·have hr2:=HR.out;rw[dB hl]at hr2;subst hr2;have l1:lf-1<0:=by have:=HLF.out;omega
  clear hl
  as_aux_lemma =>
   go_wp2_with fail;refine bodyPost_ret (v:=.agg #[aU 4,aU pc]) ?_ rfl ?_
   ·exact anz
   ·exact⟨v,rfl,HL1.out.but (c:=w.heap.size+1) (((But.refl (w.heap.size+1) _).setCell (.inl rfl) _).setCell (.inl rfl) _) (show w.heap.size≤w.heap.size+1 by omega) bQ HNF.out⟩
 have hr2:=HR.out;rw[dw hl]at hr2;have HR2:=bW hr2;have l1:¬lf-1<0:=by have:=HLF.out;omega
 clear hr2 hl HR;have HG1:=bW (HG.out.under (HL1.out.below HL.out) hgb);have uS:=bW (HC.out.under (HL1.out.below HL.out) hab);obtain⟨e0,e1,e2,e3,e4,e5⟩:=uS.out pc hpc;rw[HTE.out]at e0 e1 e2 e3 e4 e5;simp only at e0 e1 e2 e3 e4 e5;have l0:=block_lt_of_cell e0;clear r0 r1 t0 t1;go_upto_region 6 with fail;generalize hW:World.alloc w1 _=w2;have IT:P.Img w2 w1.heap.size 6 (aei ⟨c,d,sr,r,o,nn⟩):=hW▸aw7 (heap_alloc_new w1 _);have hb2:Below w1.heap.size w1 w2:=hW▸(Below.refl _ _).alloc (Nat.le_refl _) _;clear hW e0 e1 e2 e3 e4 e5 l0 c0 c1;obtain⟨B,hB⟩:∃ B,B=w1.heap.size:=⟨_,rfl⟩;rw[←hB]at IT hb2 ⊢;have aej:=bW IT;have acI:=bW (aj8.out.later hb2 bQ);have Yn:=bW (akE.out.later hb2 bQ);have HL2:=bW (HL1.out.later (hB▸hb2));have zB:B<w2.heap.size:=IT.lt bQ;have zFB:w.heap.size+1<B:=bQ;obtain⟨f0,f1,f2,f3,f4,f5⟩:=zM IT;simp only at f0 f1 f2 f3 f4 f5;clear IT hb2 hB zF zS YJ aj8 akE HL1 HG1 uS;go_wp2_with fail;refine(VW nn _).mono ?_;rintro e wo ⟨rfl,JJ⟩;have aJU:=bW (aej.out.later JJ zB);have aJV:=bW (acI.out.later JJ bQ);have KA:=bW JJ;have zo:w2.heap.size≤wo.heap.size:=JJ.size;obtain⟨f0,f1,f2,f3,f4,f5⟩:=zM aJU.out;obtain⟨m0,m1,m2⟩:=agK aJV.out sN;simp only at f0 f1 f2 f3 f4 f5;have zBo:B<wo.heap.size:=bQ;have zSo:w.heap.size<wo.heap.size:=bQ;clear JJ;go_upto_if 41 with fail
 trace "A"
 go_cut [9] (fun p wx=>∃ Y:Nat,p=.pointer (some ⟨Y,0,none⟩)∧B<Y∧P.Img wx Y 3 (fV (s.second ⟨c,d,sr,r,o,nn⟩))∧Below w2.heap.size w2 wx)
 case first =>
  as_aux_lemma =>
   cases r with
   |false =>
    go_wp2_with fail;go_meet
    go_light;exact⟨wo.heap.size,rfl,zBo,al6 (x:=.num (eH nn)) (heap_alloc_new wo _),KA.out.alloc zo _⟩
   |true =>
    have nY:¬wo.heap.size=w.heap.size:=bQ;have nY2:¬w.heap.size=wo.heap.size:=bQ;go_wp2_with fail;go_meet
    go_light;refine⟨wo.heap.size,rfl,zBo,?_,?_⟩
    ·have K:=al6 (x:=s.second ⟨c,d,sr,true,o,nn⟩) (heap_alloc_new wo (.cells #[.int .u8 (letter (s.regs sr).kind),aU (s.regs sr).b.lo,aU (s.regs sr).b.hi] 180 (0,0)));exact K
    ·exact KA.out.alloc zo _
 case rest =>
  obtain⟨Y,rfl,hBY,IY,hb3⟩:=hcut;obtain⟨w3,hw3⟩:∃ x,x=wc:=⟨_,rfl⟩;subst hw3;have HIY:=bW IY;have HIT:=bW (aej.out.later hb3 bQ);have HIS:=bW (acI.out.later hb3 bQ);have Ui:=bW (Yn.out.later hb3 bQ);have Gw:=bW (HL2.out.later hb3);have zY:Y<w3.heap.size:=IY.lt bQ;have zW:w2.heap.size≤w3.heap.size:=hb3.size;clear hb3 IY aej acI Yn HL2 f0 f1 f2 f3 f4 f5 m0 m1 m2;obtain⟨f0,f1,f2,f3,f4,f5⟩:=zM HIT.out;simp only at f0 f1 f2 f3 f4 f5;have Y9:=bW (HG.out.under (Gw.out.below HL.out) hgb);have HCd:=bW (HC.out.under (Gw.out.below HL.out) hab);have zSd:w.heap.size<w3.heap.size:=bQ;have zFd:w.heap.size+1<w3.heap.size:=bQ;have zbd:b<w3.heap.size:=Gw.out.look.lt;have zTd:B<w3.heap.size:=bQ;have hn1:c=28∨pc+1<n:=by have:=HTT.out.1;simp only at this;omega
  have sp1:IntKind.i64.wrap ((pc:Int)+1)=(pc:Int)+1:=IntWalk.i64_in _ bQ;have OM:iL (s.second ⟨c,d,sr,r,o,nn⟩):=HS.out.second hin;have aCu:=bW OM;clear OM;go_upto_block 0 with fail
  trace "B"
  go_cut [8,10] (fun e p wx=>∃ (er:Int) (q:Nat) (s2:VS),e=aU er∧p=aU q∧BL b (.slice (some a) n cap) v w v ⟨lk+1,en⟩ wx∧P.Img wx (w.heap.size+1) 2 (fun _=>aU 0)∧afm n w.heap.size s ⟨c,d,sr,r,o,nn⟩ pc q er s2 wx)
  case first =>
   obtain⟨x0,x1,x2⟩:=agK HIS.out dN;obtain⟨m0,m1,m2⟩:=agK HIS.out sN;obtain⟨y0,y1,y2⟩:=aat HIY.out;have hcl:c=28∨c=14∨(15≤c∧c≤24)∨c=25∨c=26∨c=27∨c≤13:=bQ;rcases hcl with rfl|rfl|hc|rfl|rfl|rfl|hc
   ·as_aux_lemma =>
     have HST:=bW (aJJ s d sr r o nn pc);obtain⟨z0,z1,z2⟩:=agK HIS.out (bQ:0<11);simp only[Nat.zero_mul,Nat.zero_add]at z0 z1 z2;have ok0:wI (s.regs 0).kind:=(HS.out.1 0).1;clear x0 x1 x2 m0 m1 m2 y0 y1 y2;by_cases e1:(s.regs 0).kind=1
     ·have hs2:=HST.out;rw[dB e1]at hs2;have hr3:=HR2.out;rw[hs2]at hr3;have HR3:=bW hr3;have q1:(letter (s.regs 0).kind==110)=true:=Kw ((DT ok0).2 e1);clear hs2 hr3 e1 ok0;generalize s.regs 0=x at *;obtain⟨xk,⟨xl,xh⟩⟩:=x;simp only at z0 z1 z2 q1;go_upto_region 13 with fail;obtain⟨og,jM,hog⟩:∃ og jM,v=.slice og en.length jM:=by
       rcases Gw.out.look.own.2 with ⟨h1,h2⟩|⟨g,cap,cur,h1,-⟩
       ·exact⟨none,0,by rw[h1];simp at h2;simp[h2]⟩
       ·exact⟨_,_,h1⟩
      subst hog;have hO:=Gw.out.look.own;have own:∀ g,(Value.slice og en.length jM).ownBlock=some g→b+1≤g∧g<w3.heap.size:=hO.lt;have NB:=bW (show some b≠(Value.slice og en.length jM).ownBlock from fun e=>by have:=(own b e.symm).1;omega);have NFO:=bW (show some (w.heap.size+1)≠(Value.slice og en.length jM).ownBlock from fun e=>HNF.out e.symm);have o1:w3.cell? ⟨b,2,none⟩=some (.slice og en.length jM):=Gw.out.look.img.cell 2 bQ;have f2':w3.frozen? ⟨b,2,none⟩=false:=Gw.out.look.img.free 2 bQ;have HO:=bW hO;have aJW:=bW own;have le1:en.length≤4000:=bQ;clear hO own;obtain⟨i0,hi0,hz0,hz1,hz2⟩:=info_parts aJS;have HI0:=bW hi0;have HZ0:=bW hz0;have HZ1:=bW hz1;have HZ2:=bW hz2;clear hi0 hz0 hz1 hz2;have HM1:=bW (show en.length+1≤maxLen by unfold maxLen;omega);have Fz:=bW (show(en.length+1)*16≤140737488355328 by omega);have HM3:=bW (show b≤w3.heap.size by omega);have HM4:=bW (show b<w3.heap.size+1 by omega)
      go_region_law (first|((refine step_append_lies _ iC _ _ _ iC (b+1) 127 i0 _ 2 16 Tryz.underlying176 HI0.out HZ0.out HZ1.out HZ2.out rfl dS (.slice og en.length jM) en.length (XL en) iC ((HO.out.alloc _).drew) ⟨w3.heap.size,0,none⟩ 1 1 [aU xl,aU xh] iC iC (World.news_of_block (cs:=#[aU xl,aU xh]) (t:=127) (fr:=(0,0)) (heap_alloc_new w3 _)) aaK Nat.zero_lt_one HM1.out Fz.out (by simp;exact HM3.out) (w3.heap.size+1) dY ?_;intro gg aqG wa hown1 hgrow hat hlt1;have q0':wa.cell? ⟨b,2,none⟩=some (.slice og en.length jM):=(by rw[hgrow.cell_far _ (by simp;exact HM4.out) NB.out];simp[go_sem,o1,zbd]);have q1':wa.frozen? ⟨b,2,none⟩=false:=(by rw[hgrow.frozen_far _ (by simp;exact HM4.out) NB.out];simp[go_sem,f2',zbd]);have HOA:=bW hown1;have HGA:=bW hgrow;have HAT:=bW hat;have zga:=bW hlt1;clear hown1 hgrow hat hlt1)))
      all_goals
       generalize hWE:World.setCell wa ⟨b,2,none⟩ (.slice (some ⟨gg,0,none⟩) (en.length+1) aqG)=we;have hrest:Rest b (Value.slice og en.length jM).ownBlock w wa:=(Gw.out.rest.later (((Below.refl _ _).alloc (Nat.le_refl _) _).drew)).grown HGA.out;have aCv:BL b (.slice (some a) n cap) (.slice og en.length jM) w (.slice (some ⟨gg,0,none⟩) (en.length+1) aqG) ⟨lk+1,en++[⟨xl,xh⟩]⟩ we:=by
        refine⟨?_,?_,?_⟩
        ·rw[←hWE];have hi:P.Img wa b 3 (apE (.slice (some a) n cap) (.slice og en.length jM) ⟨lk+1,en⟩):=((Gw.out.look.img.alloc _).drew).of_block (HGA.out.block b eU NB.out);have ho:wa.ownsRow (b+1) 127 2 (.slice (some ⟨gg,0,none⟩) (en.length+1) aqG) (en++[(⟨xl,xh⟩:P.B)]).length (XL (en++[(⟨xl,xh⟩:P.B)])):=by
          rw[aIe,List.length_append];exact HOA.out
         exact AY.ended hi ho
        ·rw[←hWE];exact hrest.but ((But.refl b wa).setCell (.inl rfl) _) (.inl rfl)
        ·intro g hg;have:gg=g:=by simpa[Value.ownBlock]using hg
         subst this;rcases HAT.out with h|h
         ·exact .inl h
         ·right;have:=Gw.out.size;omega
       have aCw:P.Img we (w.heap.size+1) 2 (fun _=>aU 0):=by
        rw[←hWE];exact(((Ui.out.alloc _).drew).of_block (HGA.out.block (w.heap.size+1) eU NFO.out)).other JC _
       have aCx:(Value.slice (some ⟨gg,0,none⟩) (en.length+1) aqG).ownBlock≠some (w.heap.size+1):=by
        intro e;have:gg=w.heap.size+1:=by simpa[Value.ownBlock]using e
        subst this;rcases HAT.out with h|h
        ·exact NFO.out h.symm
        ·omega
       have HLE:=bW aCv;have avf:=bW aCw;have aJX:=bW aCx;clear hrest aCv aCw aCx hWE q0' q1' HOA HGA HAT zga HO aJW o1 f2' z0 z1 z2 f0 f1 f2 f3 f4 f5 Gw Ui HIS HIY HIT;go_wp2_with fail;refine(Yk 0 _).mono ?_;rintro e w9 ⟨rfl,XK⟩;have C9:=avf.out.later XK (avf.out.lt bQ);have JE:=bW (HLE.out.later XK);refine auc ?_;intro r0 r1 t0 t1 Y0;clear XK C9 avf HLE;go_wp2_with fail;refine bodyPost_ret (v:=.agg #[aU 0,aU (-1)]) ?_ rfl ?_
       ·exact anz
       ·rw[←HR3.out];exact⟨_,rfl,JE.out.but (c:=w.heap.size+1) (((But.refl (w.heap.size+1) _).setCell (.inl rfl) _).setCell (.inl rfl) _) (show w.heap.size≤w.heap.size+1 by omega) bQ aJX.out⟩
     ·by_cases e0:(s.regs 0).kind=0
      ·have hs2:=HST.out;rw[dw e1,dB e0]at hs2;have HS2:=bW hs2;have q1:(letter (s.regs 0).kind==110)=false:=mV (fun h=>e1 ((DT ok0).1 h));have q0:(letter (s.regs 0).kind==0)=true:=Kw ((Gp ok0).2 e0);clear hs2 e0 e1 ok0;go_wp2_with fail;go_meet
       go_light;exact⟨8,pc+1,s,rfl,by go_num,Gw.out,Ui.out,.inr ⟨by decide,HS2.out⟩⟩
      ·have hs2:=HST.out;rw[dw e1,dw e0]at hs2;have HS2:=bW hs2;have q1:(letter (s.regs 0).kind==110)=false:=mV (fun h=>e1 ((DT ok0).1 h));have q0:(letter (s.regs 0).kind==0)=false:=mV (fun h=>e0 ((Gp ok0).1 h));clear hs2 e0 e1 ok0;go_wp2_with fail;go_meet
       go_light;exact⟨1,pc+1,s,rfl,by go_num,Gw.out,Ui.out,.inr ⟨by decide,HS2.out⟩⟩
   ·as_aux_lemma =>
     obtain⟨o1,o2⟩:=HTT.out.2.1 (.inl rfl);simp only at o1 o2;obtain⟨o,rfl⟩:=Int.eq_ofNat_of_zero_le o1;have sp2:IntKind.i64.wrap ((pc:Int)+1+(o:Int))=(pc:Int)+1+(o:Int):=IntWalk.i64_in _ bQ;have HST:=bW (aJI s d sr r o nn pc);go_wp2_with fail;go_meet
     go_light;refine⟨0,pc+1+o,s,rfl,by go_num,Gw.out,Ui.out,.inl ⟨rfl,by omega,by omega,HS.out,HIS.out,?_⟩⟩;rw[HST.out];congr 3
   ·as_aux_lemma =>
     have t28:=mV (show c≠28 by omega);have t14:=mV (show c≠14 by omega);have t15:15≤c:=hc.1;have t24:c≤24:=hc.2;have HST:=bW (aJH s c hc d sr r o nn pc);have hr2:=HR2.out;rw[HST.out]at hr2;subst hr2;have KC:=bW hc;clear hc;go_wp2_with (first|(go_at_call 58;refine(mg _ _).mono ?_;rintro e w' ⟨rfl,rfl⟩;rw[jX])|(with_reducible refine BJ iV 182 (.tmp 4) rfl w.heap.size 0 iV (iK fV s) _ (Img.iK HIS.out) Tryz.underlying182 rfl (rsize _) ?_));have KB:=aF6 S a n cap b f hcap hn2 hab hgb HIH.out HP.out s pc ⟨lk+1,en⟩ v w3 HS.out hpc bQ (show(0:Int)≤lk+1 by omega) (show lk+1≤4000 by have:=HLF.out;omega) (show(en.length:Int)≤lk+1 by omega) Ho.out Y9.out HCd.out Gw.out.look (HP.out pc hpc) (avd.out pc hpc) (by rw[HTE.out];exact KC.out);rw[HTE.out]at KB;refine KB.mono ?_;clear KB;rintro e w9 ⟨v9,rfl,Cj⟩;have LC:v9.ownBlock≠some (w.heap.size+1):=row_ne Cj.row (fun g hg=>(Gw.out.look.row hg).2) bQ HNF.out;have C9:=Cj.img Ui.out bQ bQ HNF.out;refine auc ?_;intro r0 r1 t0 t1 Y0;have JE:=bW (Gw.out.trans Cj);have NR9:=bW LC;clear Cj LC C9;obtain⟨r9,Ht⟩:∃ r9,J4 (iO S f) pc ⟨lk+1,en⟩ (s.asks ⟨c,d,sr,r,o,nn⟩ pc)=r9:=⟨_,rfl⟩;rw[Ht]at JE;have Yg:=bW Ht;rw[Ht];obtain⟨⟨Y1,Y2⟩,k9⟩:=r9;simp only at JE ⊢;clear Ht;go_wp2_with fail;refine bodyPost_ret (v:=.agg #[aU Y1,aU Y2]) ?_ rfl ?_
     ·exact anz
     ·rw[Yg.out];exact aAF
   ·as_aux_lemma =>
     have H81:=bW (show ∀ dr os,(Instr.loadAt 182 (.pointer (some ⟨w.heap.size,0,none⟩))).run Tryz.prog (Go.Sort.grow (redrawn w3 dr) os)=.ok (.agg (iK fV s).toArray) (Go.Sort.grow (redrawn w3 dr) os)from fun dr os=>run_loadAt_mid _ w.heap.size 0 _ (iK fV s) _ (Img.iK (HIS.out.later (below_regrown w3 dr os) zSd)) Tryz.underlying182 rfl (rsize _));have k0:=cell_regrown f0;have k1:=cell_regrown f1;have k2:=cell_regrown f2;have k4:=cell_regrown f4;have k5:=cell_regrown m0;have k6:=cell_regrown m1;have k7:=cell_regrown m2;have ho:In64 o:=D6.out;have cL:∀ dr os,Calls Tryz.prog 105 #[.agg (iK fV s).toArray,.agg #[.int .u8 (letter (s.regs sr).kind),aU (s.regs sr).b.lo,aU (s.regs sr).b.hi],aU o] (Go.Sort.grow (redrawn w3 dr) os) fun e w'' =>
      e=.returned (.tuple #[.agg #[.int .u8 (letter (s.load (s.regs sr) o).1.kind),aU (s.load (s.regs sr) o).1.b.lo,aU (s.load (s.regs sr) o).1.b.hi],aU (s.load (s.regs sr) o).2])∧∃ p:Regrown,w''=Go.Sort.grow (redrawn w3 p.d) p.os:=fun dr os=>Calls.regrown_of (aHU s HS.out _ (Y9.out.later (below_regrown w3 dr os)) (s.regs sr) (HS.out.1 sr) o ho)
     have hst:=aJE s d sr r o nn pc;have hml:=HS.out.load (HS.out.1 sr) o;generalize s.load (s.regs sr) o=L at *;obtain⟨⟨JY,⟨ln,lc⟩⟩,le⟩:=L;refine ZE ?_;intro HST zU CL;clear hst hml cL ho;go_wp2_with (go_at_call 58;refine(mg _ _).mono ?_;rintro e w' ⟨rfl,rfl⟩;rw[jX]);refine YC 14 dF dF ?_;repeat (first|(refine asl iC 182 _ iC ⟨w.heap.size,0,none⟩ iC (.agg (iK fV s).toArray) (fun w hw=>by obtain⟨p,rfl⟩:=hw;exact H81.out _ _) ?_)|quiet_step (first|exact CL.out _ _))
     refine wpQuiet_nil ?_;intro wq hwq;have hbq:Below w3.heap.size w3 wq:=by
      exact Q8
     clear hwq;clear k0 k1 k2 k4 k5 k6 k7 f0 f1 f2 f3 f4 f5 x0 x1 x2 m0 m1 m2 y0 y1 y2 H81 CL;refine aAb ?_;intro qN HFQ HLQ u0 q0 u1 q1 u2 q2 p0 p1 p2;clear hbq;go_wp2_with fail;refine NoPanic.normal ?_;go_wp2_with fail;go_meet
     go_light;refine⟨le,pc+1,{ s with regs:=upd s.regs d ⟨JY,⟨ln,lc⟩⟩},rfl,by go_num,?_,?_,?_⟩
     ·exact aAO
     ·exact aA6
     ·exact afm.pair HST.out rfl bQ (HS.out.aoC d zU.out) (acA qN.out dN ⟨JY,⟨ln,lc⟩⟩)
   ·as_aux_lemma =>
     have hst:=aJF s d sr r o nn pc;have hx:=aCu.out;have hml:=HS.out.store (s.regs d) o hx;have hkd:=HS.out.1 d;generalize hy:s.second ⟨26,d,sr,r,o,nn⟩=y at *;generalize hxd:s.regs d=x at *;have HST:=bW hst;have zU:=bW hml;have HKD:=bW hkd;have Aq:wI x.kind:=hkd.1;have Kv:wI y.kind:=hx.1;clear hst hml hkd hy hxd hx m0 m1 m2;go_wp2_with (first|(go_at_call 58;refine(mg _ _).mono ?_;rintro e w' ⟨rfl,rfl⟩;rw[jX]));refine(apk x o HKD.out D6.out _ (Y9.out.later ?_)).mono ?_
     ·exact((Below.refl _ _).alloc (Nat.le_refl _) _).alloc dY _
     rintro e w4 ⟨rfl,hb4⟩;have zA:w3.heap.size<w4.heap.size:=by have:=hb4.size;simp at this;omega
     have zA1:w3.heap.size+1<w4.heap.size:=by have:=hb4.size;simp at this;omega
     have IX4:P.Img w4 w3.heap.size 3 (fV x):=((al6 (heap_alloc_new w3 _)).alloc _).later hb4 eU;have I24:P.Img w4 (w3.heap.size+1) 2 (fun _=>aU 0):=(Img.aas (by simpa using heap_alloc_new (World.alloc w3 _) _)).later hb4 dY;have hbb:Below w3.heap.size w3 w4:=(((Below.refl _ _).alloc (Nat.le_refl _) _).alloc dY _).trans (hb4.mono eU);have acM:=bW (HIY.out.later hbb bQ);have yY:=bW (HIT.out.later hbb bQ);have EL:=bW (HIS.out.later hbb bQ);have Ci:=bW (Ui.out.later hbb bQ);have Dv:=bW (Gw.out.later hbb);have b0:=I24.cell 0 bQ;have b1:=I24.cell 1 bQ;have bf0:=I24.free 0 bQ;have bf1:=I24.free 1 bQ;obtain⟨x0',x1',x2'⟩:=aat IX4;obtain⟨y0',y1',y2'⟩:=aat acM.out;clear hb4 hbb f0 f1 f2 f3 f4 f5 x0 x1 x2 y0 y1 y2 HIY HIT HIS Ui Gw Y9 IX4 I24;have hlh:=aps HKD.out D6.out;have hat:=agI HKD.out (o:=o);have hki:=acH HKD.out (o:=o);have hst:=HST.out;have hml:=zU.out;unfold Ur;obtain⟨⟨⟨L,H⟩,er⟩,hv⟩:∃ V,iD x o=V:=⟨_,rfl⟩;rw[hv]at hlh hat hki ⊢;clear HST zU;have pn:pc+1<n:=bQ;have nA:v.ownBlock≠some (w3.heap.size+1):=Ug HL.out bQ;have HNA:=bW nA;have HLT:Hid (L≤H):=hlh.2.2;clear nA hlh;simp only at hat hki ⊢;by_cases he:er=0
     ·subst he;have h1:=hat rfl;have h2:=hki rfl;have aCy:=bW h1.2;clear hat hki h1;simp only[if_true];by_cases k2:x.kind=2
      ·rw[aJM hv k2]at hst hml;have HST:=bW hst;have t1:=Kw ((aCe Aq).2 k2);clear hv k2 h2 hst hml Aq Kv;go_wp2_with fail;go_meet
       go_light;refine⟨6,pc+1,s,rfl,by go_num,?_,?_,?_⟩
       ·exact ajO
       ·exact aj6
       ·exact ajL
      ·have t1:=mV (fun h=>k2 ((aCe Aq).1 h));by_cases y0:y.kind=0
       ·rw[aJN hv k2 y0]at hst hml;have HST:=bW hst;have t2:=Kw ((Gp Kv).2 y0);clear hv k2 h2 hst hml Aq Kv y0;go_wp2_with fail;go_meet
        go_light;refine⟨8,pc+1,s,rfl,by go_num,?_,?_,?_⟩
        ·exact ajO
        ·exact aj6
        ·exact ajL
       ·have t2:=mV (fun h=>y0 ((Gp Kv).1 h));by_cases k4:x.kind=4
        ·have t3:=Kw ((aCg Aq).2 k4);by_cases y1:y.kind=1
         ·rw[aJP hv y0 k4 y1]at hst hml;have HST:=bW hst;have t4:(letter y.kind !=110)=false:=by rw[(DT Kv).2 y1];rfl
          have t5:=mV (show letter x.kind≠102 from fun h=>by have:=(aCf Aq).1 h;omega);clear hv k2 h2 hst hml Aq Kv y0 y1 k4;go_wp2_with fail;go_meet
          go_light;refine⟨0,pc+1,s,rfl,by go_num,?_,?_,?_⟩
          ·exact ajO
          ·exact aj6
          ·exact ajL
         ·rw[aJO hv y0 k4 y1]at hst hml;have HST:=bW hst;have t4:=Dl (fun h=>y1 ((DT Kv).1 h));clear hv k2 h2 hst hml Aq Kv y0 y1 k4;go_wp2_with fail;go_meet
          go_light;refine⟨1,pc+1,s,rfl,by go_num,?_,?_,?_⟩
          ·exact ajO
          ·exact aj6
          ·exact ajL
        ·have t3:=mV (fun h=>k4 ((aCg Aq).1 h));have k3:x.kind=3:=bQ;have t5:=Kw ((aCf Aq).2 k3);by_cases Zc:L=H
         ·rw[aJR hv k2 y0 k4 Zc]at hst hml;have t6:(L !=H)=false:=by rw[Zc];simp
          have hlo:=aCy.out.1;have hhi:=aCy.out.2;rw[k3]at hlo hhi;simp only[low,high,if_true,show¬(3:Int)=2 by decide,show¬(3:Int)=4 by decide,if_false]at hlo hhi;refine amN ?_;intro q hq;have eq1:(L+16).toNat=q:=bQ;rw[eq1]at hst hml;have HST:=bW hst;have zU:=bW hml;have aJY:q<16:=bQ;obtain⟨j,hj⟩:∃ j,j=11+q:=⟨_,rfl⟩;have e27:27+L=(j:Int):=bQ;have aPr:IntKind.i64.wrap (27+L)=(j:Int):=by rw[e27];exact IntWalk.i64_in _ bQ
          have j27:(j:Int)<27:=bQ;have j0:0≤27+L:=bQ;have HJ:=bW hj;obtain⟨u0,q0⟩:∃ u,w4.cell? ⟨w.heap.size,j*3,none⟩=some u:=⟨_,EL.out.cell (j*3) bQ⟩;obtain⟨u1,q1⟩:∃ u,w4.cell? ⟨w.heap.size,j*3+1,none⟩=some u:=⟨_,EL.out.cell (j*3+1) bQ⟩;obtain⟨u2,q2⟩:∃ u,w4.cell? ⟨w.heap.size,j*3+2,none⟩=some u:=⟨_,EL.out.cell (j*3+2) bQ⟩;have p0:=EL.out.free (j*3) bQ;have p1:=EL.out.free (j*3+1) bQ;have p2:=EL.out.free (j*3+2) bQ;have nB1:¬w.heap.size=w3.heap.size+1:=bQ;have nB2:¬w3.heap.size+1=w.heap.size:=bQ;have nY1:¬Y=w3.heap.size+1:=bQ;have nY2:¬Y=w.heap.size:=bQ;clear hv k2 h2 hst hml Aq Kv y0 k4 k3 Zc hlo hhi hq eq1 hj e27;go_wp2_with fail;go_meet
          go_light;have BU:=((But.refl (w3.heap.size+1) w4).setCell (p:=⟨w3.heap.size+1,0,none⟩) (.inl rfl) (aU L)).setCell (p:=⟨w3.heap.size+1,1,none⟩) (.inl rfl) (aU H);have BV:=fun(z:World) (a1 a2 a3:Value)=>(((But.refl w.heap.size z).setCell (p:=⟨w.heap.size,j*3,none⟩) (.inl rfl) a1).setCell (p:=⟨w.heap.size,j*3+1,none⟩) (.inl rfl) a2).setCell (p:=⟨w.heap.size,j*3+2,none⟩) (.inl rfl) a3;refine⟨0,pc+1,{ s with slots:=upd s.slots q y},rfl,by go_num,?_,?_,?_⟩
          ·exact(Dv.out.but BU bQ bQ HNA.out).but (BV _ _ _ _) (Nat.le_refl _) bQ HNS.out
          ·exact(BV _ _ _ _).img (BU.img Ci.out bQ bQ) bQ bQ
          ·exact afm.pair HST.out rfl pn zU.out (aJK (BU.img EL.out bQ bQ) aJY HJ.out y)
         ·rw[aJQ hv k2 y0 k4 Zc]at hst hml;have HST:=bW hst;have t6:=Dl Zc;clear hv k2 h2 hst hml Aq Kv y0 k4 k3 Zc;go_wp2_with fail;go_meet
          go_light;refine⟨2,pc+1,s,rfl,by go_num,?_,?_,?_⟩
          ·exact ajO
          ·exact aj6
          ·exact ajL
     ·rw[aJL hv he]at hst hml;have HST:=bW hst;have HE:=bW he;have t0:=mV he;rw[dw he];clear hv hat hki hst hml he Aq Kv;go_wp2_with fail;go_meet
      go_light;refine⟨er,pc+1,s,rfl,by go_num,?_,?_,?_⟩
      ·exact ajO
      ·exact aj6
      ·exact ajL
   ·as_aux_lemma =>
     have hnn:nn=1∨nn=2∨nn=3:=by have:=asr HNB.out rfl;omega
     have pn:pc+1<n:=bQ;have ok1:wI (s.regs 1).kind:=(HS.out.1 1).1;obtain⟨u0,z0⟩:∃ u,w3.cell? ⟨w.heap.size,0,none⟩=some u:=⟨_,HIS.out.cell 0 bQ⟩;obtain⟨u1,z1⟩:∃ u,w3.cell? ⟨w.heap.size,1,none⟩=some u:=⟨_,HIS.out.cell 1 bQ⟩;obtain⟨u2,z2⟩:∃ u,w3.cell? ⟨w.heap.size,2,none⟩=some u:=⟨_,HIS.out.cell 2 bQ⟩;have p0:=HIS.out.free 0 bQ;have p1:=HIS.out.free 1 bQ;have p2:=HIS.out.free 2 bQ;have q0:w3.cell? ⟨w.heap.size,3,none⟩=some (.int .u8 (letter (s.regs 1).kind)):=(agK HIS.out (bQ:1<11)).1;have ga0:=Y9.out.1;have ga1:=Y9.out.2;have gz3:=block_lt_of_cell ga0;clear x0 x1 x2 m0 m1 m2 y0 y1 y2;rcases hnn with rfl|rfl|rfl
     ·by_cases k1:(s.regs 1).kind=1
      ·as_aux_lemma =>
        have t4:(letter (s.regs 1).kind !=110)=false:=by rw[(DT ok1).2 k1];rfl
        have HST:=bW (show s.step ⟨27,d,sr,r,o,1⟩ pc=.go (some (QG s 1,(pc:Int)+1)) none from by rw[agh,akC (.inr k1)];simp);have zU:=bW (show kG (QG s 1)from by have:=HS.out.call 1;rw[akC (.inr k1)]at this;exact this);clear k1 ok1;generalize letter (s.regs 1).kind=lk1 at *;go_wp2_with (first|(go_at_call 58;refine(mg _ _).mono ?_;rintro e w' ⟨rfl,rfl⟩;rw[jX]));refine afT ?_;intro wx KX BX vU sS;clear KX BX z0 z1 z2 p0 p1 p2 q0;refine(VW 0 _).mono ?_;rintro e wo ⟨rfl,JJ⟩;refine ajB ?_;intro zx IO KA u0 z0 u1 z1 u2 z2 p0 p1 p2 Qv UL;clear IO JJ zx vU sS;go_wp2_with fail;refine atU ?_;intro wy KX BX vU sS;clear KX BX z0 z1 z2 p0 p1 p2 Qv KA UL;go_loopw [14] (fun i wr=>∃ k:Nat,1≤k∧k≤6∧i=aU k∧P.Img wr w.heap.size 81 (gQ fV { s with regs:=QF (upd s.regs 0 (⟨5,eH 0⟩)) k})∧But w.heap.size w3 wr) (fun i _=>6-(intOf i).toNat)
        case atStart=>exact⟨1,by omega,by omega,rfl,by rw[agi];exact vU.out,sS.out⟩
        case round =>
         obtain⟨k,hk1,hk6,rfl,hI,hB⟩:=hrel;by_cases h:k≤5
         ·exact adA
         ·obtain rfl:k=6:=bQ;have HI1:=bW hI;have HB1:=bW hB;clear hI hB;go_wp2_with fail;go_meet
          go_light;refine⟨0,pc+1,QG s 1,rfl,by go_num,?_,?_,?_⟩
          ·exact afS
          ·exact afX
          ·exact aut
      ·by_cases k0:(s.regs 1).kind=0
       ·as_aux_lemma =>
         refine aqa ?_;intro t4;have t5:(letter (s.regs 1).kind==0)=true:=Kw ((Gp ok1).2 k0);have HST:=bW (show s.step ⟨27,d,sr,r,o,1⟩ pc=.err 8 from by rw[agh,aqE dS k1,dB k0];rfl);clear k1 ok1 k0;generalize letter (s.regs 1).kind=lk1 at *;go_wp2_with (first|(go_at_call 58;refine(mg _ _).mono ?_;rintro e w' ⟨rfl,rfl⟩;rw[jX]));refine afT ?_;intro wx KX BX vU sS;clear KX BX z0 z1 z2 p0 p1 p2 q0;refine(VW 0 _).mono ?_;rintro e wo ⟨rfl,JJ⟩;refine ajB ?_;intro zx IO KA u0 z0 u1 z1 u2 z2 p0 p1 p2 Qv UL;clear IO JJ zx vU sS;go_wp2_with fail;refine atU ?_;intro wy KX BX vU sS;clear KX BX z0 z1 z2 p0 p1 p2 Qv KA UL;go_loopw [14] (fun i wr=>∃ k:Nat,1≤k∧k≤6∧i=aU k∧P.Img wr w.heap.size 81 (gQ fV { s with regs:=QF (upd s.regs 0 (⟨5,eH 0⟩)) k})∧But w.heap.size w3 wr) (fun i _=>6-(intOf i).toNat)
         case atStart=>exact⟨1,by omega,by omega,rfl,by rw[agi];exact vU.out,sS.out⟩
         case round =>
          obtain⟨k,hk1,hk6,rfl,hI,hB⟩:=hrel;by_cases h:k≤5
          ·exact adA
          ·obtain rfl:k=6:=bQ;have HI1:=bW hI;have HB1:=bW hB;clear hI hB;go_wp2_with fail;go_meet
           go_light;refine⟨8,pc+1,QG s 1,rfl,by go_num,?_,?_,?_⟩
           ·exact afS
           ·exact afX
           ·exact aqt
       ·as_aux_lemma =>
         refine aqa ?_;intro t4;have t5:(letter (s.regs 1).kind==0)=false:=mV (fun h=>k0 ((Gp ok1).1 h));have HST:=bW (show s.step ⟨27,d,sr,r,o,1⟩ pc=.err 1 from by rw[agh,aqE dS k1,dw k0];rfl);clear k1 ok1 k0;generalize letter (s.regs 1).kind=lk1 at *;go_wp2_with (first|(go_at_call 58;refine(mg _ _).mono ?_;rintro e w' ⟨rfl,rfl⟩;rw[jX]));refine afT ?_;intro wx KX BX vU sS;clear KX BX z0 z1 z2 p0 p1 p2 q0;refine(VW 0 _).mono ?_;rintro e wo ⟨rfl,JJ⟩;refine ajB ?_;intro zx IO KA u0 z0 u1 z1 u2 z2 p0 p1 p2 Qv UL;clear IO JJ zx vU sS;go_wp2_with fail;refine atU ?_;intro wy KX BX vU sS;clear KX BX z0 z1 z2 p0 p1 p2 Qv KA UL;go_loopw [14] (fun i wr=>∃ k:Nat,1≤k∧k≤6∧i=aU k∧P.Img wr w.heap.size 81 (gQ fV { s with regs:=QF (upd s.regs 0 (⟨5,eH 0⟩)) k})∧But w.heap.size w3 wr) (fun i _=>6-(intOf i).toNat)
         case atStart=>exact⟨1,by omega,by omega,rfl,by rw[agi];exact vU.out,sS.out⟩
         case round =>
          obtain⟨k,hk1,hk6,rfl,hI,hB⟩:=hrel;by_cases h:k≤5
          ·exact adA
          ·obtain rfl:k=6:=bQ;have HI1:=bW hI;have HB1:=bW hB;clear hI hB;go_wp2_with fail;go_meet
           go_light;refine⟨1,pc+1,QG s 1,rfl,by go_num,?_,?_,?_⟩
           ·exact afS
           ·exact afX
           ·exact aqt
     ·as_aux_lemma =>
       have HST:=bW (show s.step ⟨27,d,sr,r,o,2⟩ pc=.go (some (QG s 2,(pc:Int)+1)) none from by rw[agh,akC (.inl rfl)];simp);have zU:=bW (show kG (QG s 2)from by have:=HS.out.call 2;rw[akC (.inl rfl)]at this;exact this);generalize letter (s.regs 1).kind=lk1 at *;go_wp2_with (first|(go_at_call 58;refine(mg _ _).mono ?_;rintro e w' ⟨rfl,rfl⟩;rw[jX]));refine afT ?_;intro wx KX BX vU sS;clear KX BX z0 z1 z2 p0 p1 p2 q0;go_loopw [14] (fun i wr=>∃ k:Nat,1≤k∧k≤6∧i=aU k∧P.Img wr w.heap.size 81 (gQ fV { s with regs:=QF (upd s.regs 0 (.num fP)) k})∧But w.heap.size w3 wr) (fun i _=>6-(intOf i).toNat)
       case atStart=>exact⟨1,by omega,by omega,rfl,by rw[agi];exact vU.out,sS.out⟩
       case round =>
        obtain⟨k,hk1,hk6,rfl,hI,hB⟩:=hrel;by_cases h:k≤5
        ·exact adA
        ·obtain rfl:k=6:=bQ;have HI1:=bW hI;have HB1:=bW hB;clear hI hB;go_wp2_with fail;go_meet
         go_light;refine⟨0,pc+1,QG s 2,rfl,by go_num,?_,?_,?_⟩
         ·exact afS
         ·exact afX
         ·exact aut
     ·by_cases k1:(s.regs 1).kind=1
      ·as_aux_lemma =>
        have t4:(letter (s.regs 1).kind !=110)=false:=by rw[(DT ok1).2 k1];rfl
        have HST:=bW (show s.step ⟨27,d,sr,r,o,3⟩ pc=.go (some (QG s 3,(pc:Int)+1)) none from by rw[agh,akC (.inr k1)];simp);have zU:=bW (show kG (QG s 3)from by have:=HS.out.call 3;rw[akC (.inr k1)]at this;exact this);clear k1 ok1;generalize letter (s.regs 1).kind=lk1 at *;go_wp2_with (first|(go_at_call 58;refine(mg _ _).mono ?_;rintro e w' ⟨rfl,rfl⟩;rw[jX]));refine afT ?_;intro wx KX BX vU sS;clear KX BX z0 z1 z2 p0 p1 p2 q0;refine(VW 0 _).mono ?_;rintro e wo ⟨rfl,JJ⟩;refine ajB ?_;intro zx IO KA u0 z0 u1 z1 u2 z2 p0 p1 p2 Qv UL;clear IO JJ zx vU sS;go_wp2_with fail;refine atV ?_;intro wy KX BX vU sS;clear KX BX z0 z1 z2 p0 p1 p2 Qv KA UL;go_loopw [14] (fun i wr=>∃ k:Nat,1≤k∧k≤6∧i=aU k∧P.Img wr w.heap.size 81 (gQ fV { s with regs:=QF (upd s.regs 0 (.num (eH 0))) k})∧But w.heap.size w3 wr) (fun i _=>6-(intOf i).toNat)
        case atStart=>exact⟨1,by omega,by omega,rfl,by rw[agi];exact vU.out,sS.out⟩
        case round =>
         obtain⟨k,hk1,hk6,rfl,hI,hB⟩:=hrel;by_cases h:k≤5
         ·exact adA
         ·obtain rfl:k=6:=bQ;have HI1:=bW hI;have HB1:=bW hB;clear hI hB;go_wp2_with fail;go_meet
          go_light;refine⟨0,pc+1,QG s 3,rfl,by go_num,?_,?_,?_⟩
          ·exact afS
          ·exact afX
          ·exact aut
      ·by_cases k0:(s.regs 1).kind=0
       ·as_aux_lemma =>
         refine aqa ?_;intro t4;have t5:(letter (s.regs 1).kind==0)=true:=Kw ((Gp ok1).2 k0);have HST:=bW (show s.step ⟨27,d,sr,r,o,3⟩ pc=.err 8 from by rw[agh,aqE dS k1,dB k0];rfl);clear k1 ok1 k0;generalize letter (s.regs 1).kind=lk1 at *;go_wp2_with (first|(go_at_call 58;refine(mg _ _).mono ?_;rintro e w' ⟨rfl,rfl⟩;rw[jX]));refine afT ?_;intro wx KX BX vU sS;clear KX BX z0 z1 z2 p0 p1 p2 q0;refine(VW 0 _).mono ?_;rintro e wo ⟨rfl,JJ⟩;refine ajB ?_;intro zx IO KA u0 z0 u1 z1 u2 z2 p0 p1 p2 Qv UL;clear IO JJ zx vU sS;go_wp2_with fail;refine atV ?_;intro wy KX BX vU sS;clear KX BX z0 z1 z2 p0 p1 p2 Qv KA UL;go_loopw [14] (fun i wr=>∃ k:Nat,1≤k∧k≤6∧i=aU k∧P.Img wr w.heap.size 81 (gQ fV { s with regs:=QF (upd s.regs 0 (.num (eH 0))) k})∧But w.heap.size w3 wr) (fun i _=>6-(intOf i).toNat)
         case atStart=>exact⟨1,by omega,by omega,rfl,by rw[agi];exact vU.out,sS.out⟩
         case round =>
          obtain⟨k,hk1,hk6,rfl,hI,hB⟩:=hrel;by_cases h:k≤5
          ·exact adA
          ·obtain rfl:k=6:=bQ;have HI1:=bW hI;have HB1:=bW hB;clear hI hB;go_wp2_with fail;go_meet
           go_light;refine⟨8,pc+1,QG s 3,rfl,by go_num,?_,?_,?_⟩
           ·exact afS
           ·exact afX
           ·exact aqt
       ·as_aux_lemma =>
         refine aqa ?_;intro t4;have t5:(letter (s.regs 1).kind==0)=false:=mV (fun h=>k0 ((Gp ok1).1 h));have HST:=bW (show s.step ⟨27,d,sr,r,o,3⟩ pc=.err 1 from by rw[agh,aqE dS k1,dw k0];rfl);clear k1 ok1 k0;generalize letter (s.regs 1).kind=lk1 at *;go_wp2_with (first|(go_at_call 58;refine(mg _ _).mono ?_;rintro e w' ⟨rfl,rfl⟩;rw[jX]));refine afT ?_;intro wx KX BX vU sS;clear KX BX z0 z1 z2 p0 p1 p2 q0;refine(VW 0 _).mono ?_;rintro e wo ⟨rfl,JJ⟩;refine ajB ?_;intro zx IO KA u0 z0 u1 z1 u2 z2 p0 p1 p2 Qv UL;clear IO JJ zx vU sS;go_wp2_with fail;refine atV ?_;intro wy KX BX vU sS;clear KX BX z0 z1 z2 p0 p1 p2 Qv KA UL;go_loopw [14] (fun i wr=>∃ k:Nat,1≤k∧k≤6∧i=aU k∧P.Img wr w.heap.size 81 (gQ fV { s with regs:=QF (upd s.regs 0 (.num (eH 0))) k})∧But w.heap.size w3 wr) (fun i _=>6-(intOf i).toNat)
         case atStart=>exact⟨1,by omega,by omega,rfl,by rw[agi];exact vU.out,sS.out⟩
         case round =>
          obtain⟨k,hk1,hk6,rfl,hI,hB⟩:=hrel;by_cases h:k≤5
          ·exact adA
          ·obtain rfl:k=6:=bQ;have HI1:=bW hI;have HB1:=bW hB;clear hI hB;go_wp2_with fail;go_meet
           go_light;refine⟨1,pc+1,QG s 3,rfl,by go_num,?_,?_,?_⟩
           ·exact afS
           ·exact afX
           ·exact aqt
   ·as_aux_lemma =>
     have hneg:c=13→r=false∧nn=0:=by
      intro e;have:=HNB.out;unfold bad two at this;subst e;cases r with
      |false=>simp at this;exact⟨rfl,by omega⟩
      |true=>simp at this
     have k0:=cell_regrown f0;have k1:=cell_regrown f1;have k5:=cell_regrown x0;have k6:=cell_regrown x1;have k7:=cell_regrown x2;have k8:=cell_regrown y0;have k9:=cell_regrown y1;have k10:=cell_regrown y2;have t28:=mV (show c≠28 by omega);have t14:=mV (show c≠14 by omega);have t25:=mV (show c≠25 by omega);have t26:=mV (show c≠26 by omega);have t27:=mV (show c≠27 by omega);have t15:decide (15≤c)=false:=eU;have hst:=aJG s c hc d sr r o nn pc hneg;have hx:=aCu.out;have pn:pc+1<n:=bQ;generalize s.second ⟨c,d,sr,r,o,nn⟩=y at *;have cL:∀ dr os,Calls Tryz.prog 107 #[aU c,.agg #[.int .u8 (letter (s.regs d).kind),aU (s.regs d).b.lo,aU (s.regs d).b.hi],.agg #[.int .u8 (letter y.kind),aU y.b.lo,aU y.b.hi]] (Go.Sort.grow (redrawn w3 dr) os) fun e w'' =>
      e=.returned (.tuple #[.agg #[.int .u8 (letter (qJ c (s.regs d) y).1.kind),aU (qJ c (s.regs d) y).1.b.lo,aU (qJ c (s.regs d) y).1.b.hi],aU (qJ c (s.regs d) y).2])∧∃ p:Regrown,w''=Go.Sort.grow (redrawn w3 p.d) p.os:=fun dr os=>Calls.regrown_of (aGZ c (s.regs d) y (HS.out.1 d) hx _ (Y9.out.later (below_regrown w3 dr os)))
     have hml:=aqI (c:=c) (HS.out.1 d) hx;generalize qJ c (s.regs d) y=L at *;obtain⟨⟨JY,⟨ln,lc⟩⟩,le⟩:=L;refine ZE ?_;intro HST zU CL;clear hst hml cL hx hc hneg;go_wp2_with (go_at_call 58;refine(mg _ _).mono ?_;rintro e w' ⟨rfl,rfl⟩;rw[jX]);refine YC 14 dF dF ?_;repeat (quiet_step (first|exact CL.out _ _))
     refine wpQuiet_nil ?_;intro wq hwq;have hbq:Below w3.heap.size w3 wq:=by
      exact Q8
     clear hwq;clear k0 k1 k5 k6 k7 k8 k9 k10 f0 f1 f2 f3 f4 f5 x0 x1 x2 m0 m1 m2 y0 y1 y2 CL t28 t14 t25 t26 t27 t15;refine aAb ?_;intro qN HFQ HLQ u0 q0 u1 q1 u2 q2 p0 p1 p2;clear hbq;go_wp2_with fail;refine NoPanic.normal ?_;go_wp2_with fail;go_meet
     go_light;refine⟨le,pc+1,{ s with regs:=upd s.regs d ⟨JY,⟨ln,lc⟩⟩},rfl,by go_num,?_,?_,?_⟩
     ·exact aAO
     ·exact aA6
     ·exact afm.pair HST.out rfl pn (HS.out.aoC d zU.out) (acA qN.out dN ⟨JY,⟨ln,lc⟩⟩)
  case rest =>
   as_aux_lemma =>
    obtain⟨er,q,s2,rfl,rfl,hL2,hF2,hS2⟩:=hcut;obtain⟨wx,hwx⟩:∃ x,x=wc:=⟨_,rfl⟩;subst hwx;have HLx:=bW hL2;have HFx:=bW hF2;clear hL2 hF2;rcases hS2 with ⟨rfl,hq1,hq2,hmo,hma,hst⟩|⟨he,hst⟩
    ·have hr2:=HR2.out;rw[hst,agT (fun h0=>(G7 HP.out f s2 _ ⟨lk+1,en⟩ hmo bQ (by exact_mod_cast hq2) bQ).place h0)]at hr2;have HR3:=bW hr2;have HMA:=bW hma;have Hl:=bW hmo;have HGx:=bW (HG.out.under (HLx.out.below HL.out) hgb);have HCx:=bW (HC.out.under (HLx.out.below HL.out) hab);clear hr2 hst hma hmo;go_wp2_with (first|(with_reducible refine BJ iV 182 (.tmp 4) rfl w.heap.size 0 iV (iK fV s2) _ (Img.iK HMA.out) Tryz.underlying182 rfl (rsize _) ?_));refine(HIH.out s2 q ⟨lk+1,en⟩ v wx Hl.out hq2 bQ (show(0:Int)≤lk+1 by omega) (show lk+1≤4000 by have:=HLF.out;omega) (show(en.length:Int)≤lk+1 by omega) Ho.out HGx.out HCx.out HLx.out.look).mono ?_;rintro e w9 ⟨v9,rfl,Cj⟩;have LC:v9.ownBlock≠some (w.heap.size+1):=row_ne Cj.row (fun g hg=>(HLx.out.look.row hg).2) (HFx.out.lt bQ) HNF.out;have C9:=Cj.img HFx.out bQ bQ HNF.out;refine auc ?_;intro r0 r1 t0 t1 Y0;have JE:=bW (HLx.out.trans Cj);have NR9:=bW LC;clear Cj LC C9;rw[HR3.out]at JE;rw[HR3.out];obtain⟨⟨Y1,Y2⟩,k9⟩:=R;simp only at JE ⊢;go_wp2_with fail;refine bodyPost_ret (v:=.agg #[aU Y1,aU Y2]) ?_ rfl ?_
     ·exact anz
     ·exact aAF
    ·have hr2:=HR2.out;rw[hst]at hr2;subst hr2;have tn:=Dl he;have r0:wx.cell? ⟨w.heap.size+1,0,none⟩=some (aU 0):=HFx.out.cell 0 bQ;have r1:wx.cell? ⟨w.heap.size+1,1,none⟩=some (aU 0):=HFx.out.cell 1 bQ;have t0:=HFx.out.free 0 bQ;have t1:=HFx.out.free 1 bQ;have zFx:w.heap.size+1<wx.heap.size:=HFx.out.lt bQ;clear hst he;go_wp2_with fail;refine bodyPost_ret (v:=.agg #[aU er,aU pc]) ?_ rfl ?_
     ·exact anz
     ·exact⟨v,rfl,HLx.out.but (c:=w.heap.size+1) (((But.refl (w.heap.size+1) _).setCell (.inl rfl) _).setCell (.inl rfl) _) (show w.heap.size≤w.heap.size+1 by omega) bQ HNF.out⟩
end Go.Proofs.YtglilddlhibogaaGreatDoor.W
