/- A part of the proof; each theorem states its conditions. -/
import Derived.Test.YtglilddlhibogaaGreatDoorW8
import Derived.Test.YtglilddlhibogaaGreatDoorRef2
set_option linter.unusedSimpArgs false
set_option linter.unusedVariables false
set_option maxRecDepth 100000
set_option maxHeartbeats 100000000
namespace Go.Proofs.YtglilddlhibogaaGreatDoor.W
open Go.RowKit Go.Proofs.YtglilddlhibogaaGreatDoor.P
theorem apn(a:P.B):wU a a=a:=by cases a;simp[wU]
def QM(l:List P.B)(k:Nat):P.B:=(l.take k).foldl wU (l.headD kK)
theorem aNw{l:List P.B}{k:Nat}{x:P.B}(h:l[k]?=some x):QM l (k+1)=wU (QM l k) x:=by
 unfold QM;rw[List.take_add_one,h];simp[List.foldl_append]
theorem aNx(l:List P.B)(h:l≠[]):QM l l.length=outOf l:=by
 cases l with
 |nil=>exact absurd rfl h
 |cons x l=>simp[QM,outOf,apn]
def ac1(w:World)(r:(Int × Int) × P.B)(e:Ending)(w':World):Prop:=e=.returned (.tuple #[.agg #[aU r.2.lo,aU r.2.hi],.agg #[aU r.1.1,aU r.1.2]])∧Below w.heap.size w w'
theorem aEt(l:Value)(er p:Int)(he:er≠0)(w:World)(hch:∀ w',Below w.heap.size w w'→Calls Tryz.prog 35 #[l] w' fun e w''=>e=.returned (.agg #[aU er,aU p])∧Below w'.heap.size w' w'') :
  Calls Tryz.prog 42 #[l] w (ac1 w ((er,p),kK)):=by
 refine fU ?_;intro HW0;have uw:=bW hch;have tn:(er !=0)=true:=ap8;clear hch he;go_enter Tryz.func42,Tryz.ntmps42;go_wp2_with fail;refine aAw ?_;intro w1 hb hz1 HB1 LQ IE1 HI1 HJ1;clear hb LQ IE1;go_upto_region 3 with fail;generalize hW:World.alloc w1 _=w2;have f0:w2.cell? ⟨w1.heap.size,0,none⟩=some (aU er):=qY;have f1:w2.cell? ⟨w1.heap.size,1,none⟩=some (aU p):=qY;have hbw2:Below w1.heap.size w1 w2:=hW▸(Below.refl _ _).alloc (Nat.le_refl _) _;have YN:=bW (HI1.out.later hbw2 bQ);have acv:=bW (HJ1.out.later hbw2 bQ);have adp:=bW (HB1.out.trans (hbw2.mono bQ));have zf:w1.heap.size<w2.heap.size:=block_lt_of_cell f0;clear hW hbw2 HI1 HJ1 HB1;have r0:=YN.out.cell 0 bQ;have r1:=YN.out.cell 1 bQ;have e0:=acv.out.cell 0 bQ;have e1:=acv.out.cell 1 bQ;have t0:=YN.out.free 0 bQ;have t1:=YN.out.free 1 bQ;have s0:=acv.out.free 0 bQ;have s1:=acv.out.free 1 bQ;have zw:w.heap.size+1<w2.heap.size:=acv.out.lt bQ;try simp only at r0 r1 e0 e1
 go_cut [] (fun wx=>wx.cell? ⟨w.heap.size,0,none⟩=some (aU 0)∧wx.cell? ⟨w.heap.size,1,none⟩=some (aU 0)∧wx.cell? ⟨w.heap.size+1,0,none⟩=some (aU er)∧wx.cell? ⟨w.heap.size+1,1,none⟩=some (aU p)∧Below w.heap.size w wx)
 case first =>
  as_aux_lemma =>
   go_region;all_goals go_wp2_with fail
   all_goals go_meet
   all_goals go_light
   all_goals refine⟨?_,?_,?_,?_,?_⟩
   all_goals first|(simp[go_sem, *];done)|(repeat' (first|with_reducible exact adp.out|with_reducible refine Below.drew ?_|with_reducible refine Below.setCell ?_ ?_ _|(simp;done)|(simp;omega)|omega))
 case rest =>
  obtain⟨r0,r1,e0,e1,hbx⟩:=hcut;obtain⟨wx,hwx⟩:∃ x,x=wc:=⟨_,rfl⟩;subst hwx;go_wp2_with fail;refine bodyPost_ret (v:=.tuple #[.agg #[aU 0,aU 0],.agg #[aU er,aU p]]) ?_ rfl ⟨rfl,hbx⟩;simp[results,Tryz.results42,go_sem, *]
theorem aNy(a:Addr)(n cap:Nat)(S:Nat→Step)(hn:1≤n)(hn2:n≤200)(hcap:n≤cap)(w:World)(hs:Cells w a S n)(hP:aar S n)(hg:nH w)
  (hch:∀ w',Below w.heap.size w w'→Calls Tryz.prog 35 #[.slice (some a) n cap] w' fun e w''=>e=.returned (.agg #[aU 0,aU (-1)])∧Below w'.heap.size w' w'') :
  Calls Tryz.prog 42 #[.slice (some a) n cap] w (ac1 w (if(uo S n).1.1≠0 then((uo S n).1,kK)else((0,-1),outOf (uo S n).2.ends))):=by
 refine fU ?_;intro HW0;obtain⟨R,hR⟩:∃ R,(if(uo S n).1.1≠0 then((uo S n).1,kK)else((0,-1),outOf (uo S n).2.ends))=R:=⟨_,rfl⟩;rw[hR];have HR:=bW hR;have HP:=bW hP;have uw:=bW hch;have HSS:=bW hs;have HG:=bW hg;have hab:a.block<w.heap.size:=aBC;have hgb:4<w.heap.size:=block_lt_of_cell hg.1;clear hR hP hch hs hg;go_enter Tryz.func42,Tryz.ntmps42;go_wp2_with fail;refine aAw ?_;intro w1 hb hz1 HB1 LQ IE1 HI1 HJ1;have z11:w.heap.size+1<w1.heap.size:=bQ;clear hb LQ IE1;go_upto_region 6 with fail;generalize hW:World.alloc (World.alloc (World.alloc w1 _) _) _=w2;have IS:P.Img w2 (w1.heap.size+1+1) 81 (gQ fV vz):=by
  rw[←hW];exact aot (by simpa using heap_alloc_new (World.alloc (World.alloc w1 _) _) _) dF
 have IW:P.Img w2 (w1.heap.size+1) 3 (apE (.slice (some a) n cap) (.slice none 0 0) ⟨0,[]⟩):=by
  rw[←hW];exact Img.alloc (aot aoL dF) _
 have hb2:Below w1.heap.size w1 w2:=hW▸(((Below.refl _ _).alloc (Nat.le_refl _) _).alloc dY _).alloc eU _;clear hW;have arH:=bW IS;have arI:=bW IW;have adp:=bW (HB1.out.trans (hb2.mono bQ));have YN:=bW (HI1.out.later hb2 bQ);have acv:=bW (HJ1.out.later hb2 bQ);have avU:=IS.lt bQ;have avV:=IW.lt bQ;clear IS IW hb2 HI1 HJ1;go_wp2_with fail;refine(VW 0 _).mono ?_;rintro e w3 ⟨rfl,hb⟩;have NI:=arH.out.later hb avU;have arJ:=bW (arI.out.later hb avV);have arK:=bW (adp.out.trans (hb.mono adp.out.size));have arL:=bW (YN.out.later hb (YN.out.lt bQ));have aEu:=bW (acv.out.later hb (acv.out.lt bQ));obtain⟨aPF,d0⟩:∃ v,w3.cell? ⟨w1.heap.size+1+1,3,none⟩=some v:=⟨_,NI.cell 3 bQ⟩;obtain⟨aPG,d1⟩:∃ v,w3.cell? ⟨w1.heap.size+1+1,4,none⟩=some v:=⟨_,NI.cell 4 bQ⟩;obtain⟨aPH,d2⟩:∃ v,w3.cell? ⟨w1.heap.size+1+1,5,none⟩=some v:=⟨_,NI.cell 5 bQ⟩;have g0:=NI.free 3 bQ;have g1:=NI.free 4 bQ;have g2:=NI.free 5 bQ;have arM:=bW NI;clear hb NI;go_upto_region 7 with fail;generalize hW:World.setCell (World.setCell (World.setCell w3 _ _) _ _) _ _=w4;have Iw4:P.Img w4 (w1.heap.size+1+1) 81 (gQ fV vz1):=by
  rw[←hW];have K:=acA arM.out (bQ:1<11) ⟨2,eH 0⟩
  skip
  exact K
 have Bw4:But (w1.heap.size+1+1) w3 w4:=hW▸(((But.refl (w1.heap.size+1+1) w3).setCell (.inl rfl) _).setCell (.inl rfl) _).setCell (.inl rfl) _;have arN:=bW Iw4;have akP:=bW (Bw4.img arJ.out bQ bQ);have akQ:=bW (Bw4.img arL.out bQ bQ);have avW:=bW (Bw4.img aEu.out bQ bQ);have akR:=bW (show Below w.heap.size w w4 from hW▸((arK.out.setCell eU _).setCell eU _).setCell eU _);have avX:=Iw4.lt bQ;have avY:=akP.out.lt bQ;clear hW Iw4 Bw4 d0 d1 d2 g0 g1 g2 arH arI YN acv adp arM arJ arL aEu arK;go_wp2_with fail;refine(VW 0 _).mono ?_;rintro e w5 ⟨rfl,hb⟩;have NJ:=arN.out.later hb avX;have arO:=bW (akP.out.later hb avY);have arP:=bW (akR.out.trans (hb.mono akR.out.size));have arQ:=bW (akQ.out.later hb (akQ.out.lt bQ));have aEv:=bW (avW.out.later hb (avW.out.lt bQ));obtain⟨aPI,d0⟩:∃ v,w5.cell? ⟨w1.heap.size+1+1,30,none⟩=some v:=⟨_,NJ.cell 30 bQ⟩;obtain⟨aPJ,d1⟩:∃ v,w5.cell? ⟨w1.heap.size+1+1,31,none⟩=some v:=⟨_,NJ.cell 31 bQ⟩;obtain⟨aPK,d2⟩:∃ v,w5.cell? ⟨w1.heap.size+1+1,32,none⟩=some v:=⟨_,NJ.cell 32 bQ⟩;have g0:=NJ.free 30 bQ;have g1:=NJ.free 31 bQ;have g2:=NJ.free 32 bQ;have arR:=bW NJ;clear hb NJ;go_upto_region 8 with fail;generalize hW:World.setCell (World.setCell (World.setCell w5 _ _) _ _) _ _=w6;have Iw6:P.Img w6 (w1.heap.size+1+1) 81 (gQ fV VS.init):=by
  rw[←hW];have K:=acA arR.out (bQ:10<11) ⟨3,eH 0⟩;rw[aEw]at K;exact K
 have Bw6:But (w1.heap.size+1+1) w5 w6:=hW▸(((But.refl (w1.heap.size+1+1) w5).setCell (.inl rfl) _).setCell (.inl rfl) _).setCell (.inl rfl) _;have aov:=bW Iw6;have adq:=bW (Bw6.img arO.out bQ bQ);have akS:=bW (Bw6.img arQ.out bQ bQ);have aEx:=bW (Bw6.img aEv.out bQ bQ);have acy:=bW (show Below w.heap.size w w6 from hW▸((arP.out.setCell eU _).setCell eU _).setCell eU _);have aNz:=Iw6.lt bQ;have aNA:=adq.out.lt bQ;clear hW Iw6 Bw6 d0 d1 d2 g0 g1 g2 arN akP akQ avW akR arR arO arQ aEv arP;have Ba:=bW (HSS.out.later acy.out);have HG6:=bW (show nH w6 from HG.out.later acy.out);go_wp2_with (first|(with_reducible refine BJ iV 182 (.tmp 6) rfl (w1.heap.size+1+1) 0 iV (iK fV VS.init) _ (Img.iK aov.out) Tryz.underlying182 rfl (rsize _) ?_));refine(aJT S a n cap (w1.heap.size+1) hcap hn2 bQ bQ HP.out.step HP.out.wrong HP.out.off n VS.init 0 ⟨0,[]⟩ (.slice none 0 0) w6 kG.init bQ bQ (Int.le_refl _) auW dY dY HG6.out Ba.out ⟨adq.out,⟨rfl,.inl ⟨rfl,rfl⟩⟩⟩).mono ?_;intro e w7 hp;have hp:asz (w1.heap.size+1) (.slice (some a) n cap) (.slice none 0 0) w6 (uo S n) e w7:=hp;obtain⟨v,rfl,hL⟩:=hp;have hL:BL (w1.heap.size+1) (.slice (some a) n cap) (.slice none 0 0) w6 v (uo S n).2 w7:=hL;have HLB:Hid (Below w.heap.size w w7):=acy.out.trans ((hL.below (⟨adq.out,⟨rfl,.inl ⟨rfl,rfl⟩⟩⟩:AY w6 (w1.heap.size+1) (.slice (some a) n cap) (.slice none 0 0) ⟨0,[]⟩)).mono bQ)
 have akT:=bW (hL.img akS.out bQ bQ (by simp[Value.ownBlock]));have akU:=bW (hL.img aEx.out bQ bQ (by simp[Value.ownBlock]));have mQ:=bW (G7 HP.out.step n VS.init 0 ⟨0,[]⟩ kG.init bQ bQ bQ);have uH:=bW (TV (S:=S) n VS.init 0 ⟨0,[]⟩ auW);have yR:=bW (acB (S:=S) n VS.init 0 ⟨0,[]⟩ dY);change Hid (Keeps _ (uo S n))at mQ;change Hid ((uo S n).1.1=0→(uo S n).2.looks≤4000)at uH;change Hid (((uo S n).2.ends.length:Int)≤(uo S n).2.looks)at yR;have hr:=HR.out;clear HR aov Ba HG6 akS aEx acy adq HSS uw;generalize uo S n=V at *;obtain⟨⟨er,pl⟩,⟨lk,E⟩⟩:=V;simp only at hL mQ uH yR hr ⊢;have HL:=bW hL;clear hL;have zb7:w1.heap.size+1<w7.heap.size:=HL.out.look.lt;by_cases he:er=0
 ·subst he;rw[dw dY]at hr;subst hr;have hm:E≠[]:=by
   obtain⟨l,h1,h2⟩:=mQ.out.more;simp only[List.nil_append]at h1;rw[h1];exact h2 rfl
  have hl4:(E.length:Int)≤4000:=Int.le_trans yR.out (uH.out rfl);have h0:0<E.length:=List.length_pos_iff.2 hm;obtain⟨g,c2,rfl,hgl,hrow⟩:∃ g c2,v=.slice (some ⟨g,0,none⟩) E.length c2∧w1.heap.size+1<g∧∀ j x,E[j]?=some x→w7.cell? ⟨g,j*2,none⟩=some (aU x.lo)∧w7.cell? ⟨g,j*2+1,none⟩=some (aU x.hi):=by
   have ho:=HL.out.look.own;rcases ho.2 with ⟨-,h2⟩|⟨g,c2,cur,hv,hbg,-⟩
   ·simp only at h2;omega
   ·subst hv;refine⟨g,c2,rfl,by omega,fun j x hx=>?_⟩;have hadd:∀ i,(⟨g,0,none⟩:Addr).add i=⟨g,i,none⟩:=fun i=>by unfold Addr.add;split<;>simp_all
    have h1:=ho.cells (g:=g) rfl (j*2) _ (atq E j x hx).1;have h2:=ho.cells (g:=g) rfl (j*2+1) _ (atq E j x hx).2;rw[hadd]at h1 h2;exact⟨h1,h2⟩
  have uF:=bW hrow;have HM:=bW hm;have o2:w7.cell? ⟨w1.heap.size+1,2,none⟩=some (.slice (some ⟨g,0,none⟩) E.length c2):=HL.out.look.img.cell 2 bQ;obtain⟨x0,hx0⟩:∃ x,E[0]?=some x:=⟨_,List.getElem?_eq_getElem h0⟩;obtain⟨q0,q1⟩:=hrow 0 x0 hx0;simp only[Nat.zero_mul,Nat.zero_add]at q0 q1;have hrz:QM E 0=x0:=by
   unfold QM;cases E with
   |nil=>simp at hx0
   |cons y l=>simp at hx0;subst hx0;rfl
  have HRZ:=bW hrz;have i0:(0:Int)<E.length:=bQ;have zg7:g<w7.heap.size:=block_lt_of_cell q0;obtain⟨m,hm0⟩:∃ m,m=E.length:=⟨_,rfl⟩;clear hrow hm hrz mQ uH yR hx0;go_upto_region 12 with fail;generalize hW:World.alloc (World.alloc w7 _) _=w8;have I8:P.Img w8 (w7.heap.size+1) 2 (fun j=>if j=0 then aU (QM E 0).lo else aU (QM E 0).hi):=by
   rw[←hW,HRZ.out];refine aot (c:=#[aU x0.lo,aU x0.hi]) (t:=127) ?_ dF;simpa using heap_alloc_new (World.alloc w7 _) (.cells #[aU x0.lo,aU x0.hi] 127 (0,0))
  have hb8:Below w7.heap.size w7 w8:=hW▸((Below.refl _ _).alloc (Nat.le_refl _) _).alloc dY _;clear hW q0 q1;have QS:=bW I8;have akV:=bW (akT.out.later hb8 (akT.out.lt bQ));have agm:=bW (akU.out.later hb8 (akU.out.lt bQ));have avZ:=bW (HLB.out.trans (hb8.mono HLB.out.size));have aEy:Hid (∀ j x,E[j]?=some x→w8.cell? ⟨g,j*2,none⟩=some (aU x.lo)∧w8.cell? ⟨g,j*2+1,none⟩=some (aU x.hi)):=fun j x hx=>⟨(hb8.cell (p:=⟨g,j*2,none⟩) zg7).trans (uF.out j x hx).1,(hb8.cell (p:=⟨g,j*2+1,none⟩) zg7).trans (uF.out j x hx).2⟩;have o2':w8.cell? ⟨w1.heap.size+1,2,none⟩=some (.slice (some ⟨g,0,none⟩) E.length c2):=(hb8.cell (p:=⟨w1.heap.size+1,2,none⟩) zb7).trans o2;have z8:w7.heap.size+1<w8.heap.size:=I8.lt bQ;clear o2 I8 hb8 uF HL akT akU HLB;go_wp2_with fail;go_loopw [46] (fun i wr=>∃ k:Nat,k≤E.length∧i=aU k∧P.Img wr (w7.heap.size+1) 2 (fun j=>if j=0 then aU (QM E k).lo else aU (QM E k).hi)∧But (w7.heap.size+1) w8 wr) (fun i _=>E.length-(intOf i).toNat)
  case atStart=>exact⟨0,by omega,rfl,QS.out,But.refl _ _⟩
  case round =>
   obtain⟨k,hk,rfl,hI,hB⟩:=hrel;by_cases h:k<E.length
   ·obtain⟨x,hx⟩:∃ x,E[k]?=some x:=⟨_,List.getElem?_eq_getElem h⟩;obtain⟨y0,y1⟩:=aEy.out k x hx;have y0:=hB.cell y0 JC;have y1:=hB.cell y1 JC;have zr:w7.heap.size+1<wr.heap.size:=hI.lt bQ;have c0:wr.cell? ⟨w7.heap.size+1,0,none⟩=some (aU (QM E k).lo):=hI.cell 0 bQ;have c1:wr.cell? ⟨w7.heap.size+1,1,none⟩=some (aU (QM E k).hi):=hI.cell 1 bQ;have i1:(k:Int)<E.length:=bQ;have HX:=bW hx;have HI:=bW hI;have BI:=bW hB;have zg8:g<wr.heap.size:=bQ;clear hx hI hB;go_wp2_with fail;refine(QO _ _ _ _ _).mono ?_;rintro e wj ⟨rfl,hbj⟩;have IJ:=(HI.out.alloc _).later hbj eU;have d0:=IJ.cell 0 bQ;have d1:=IJ.cell 1 bQ;have p0:=IJ.free 0 bQ;have p1:=IJ.free 1 bQ;have HIJ:=bW IJ;have HBJ:=bW ((BI.out.alloc _).trans (But.of hbj));clear IJ hbj y0 y1 c0 c1;simp only[if_true]at d0;simp only[show¬(1:Nat)=0 by decide,if_false]at d1;go_wp2_with fail;go_roundw
    case rel =>
     go_light;refine⟨k+1,by omega,by go_num,?_,?_⟩
     ·rw[aNw HX.out];exact((HIJ.out.set (j:=0) bQ _).set (j:=1) bQ _).congr fun j hj=>by
       rcases j with _|_|j
       ·simp[P.upd,wU]
       ·simp[P.upd,wU]
       ·omega
     ·exact(HBJ.out.setCell (.inl rfl) _).setCell (.inl rfl) _
    case measure=>simp[intOf];omega
   ·obtain rfl:k=E.length:=bQ;have c0:wr.cell? ⟨w7.heap.size+1,0,none⟩=some (aU (QM E E.length).lo):=hI.cell 0 bQ;have c1:wr.cell? ⟨w7.heap.size+1,1,none⟩=some (aU (QM E E.length).hi):=hI.cell 1 bQ;rw[aNx E HM.out]at c0 c1;have aEz:=bW (hB.img akV.out bQ bQ);have aEA:=bW (hB.img agm.out bQ bQ);have aEB:=bW (avZ.out.trans ((hB.below bQ).mono bQ));clear hI hB o2' aEy;generalize outOf E=X at *;obtain⟨xl,xh⟩:=X;simp only at c0 c1;go_upto_region 17 with fail;have k0:=cell_regrown c0;have k1:=cell_regrown c1;have CB:=bW (show ∀ dr os,Calls Tryz.prog 18 #[aU 0] (Go.Sort.grow (redrawn wr dr) os) fun e w''=>e=.returned (.agg #[aU 0,aU (-1)])∧∃ p:Regrown,w''=Go.Sort.grow (redrawn wr p.d) p.os from fun dr os=>Calls.regrown_of (Yk 0 _));refine OD 2 dF dF ?_;repeat (quiet_step (first|exact CB.out _ _))
    refine wpQuiet_nil ?_;intro wq hwq;have hbq:Below wr.heap.size wr wq:=by
     exact Q8
    clear hwq;have Yr:=aEz.out.later hbq (aEz.out.lt bQ);have IEq:=aEA.out.later hbq (aEA.out.lt bQ);have HBq:=bW (aEB.out.trans (hbq.mono aEB.out.size));have zq:w.heap.size+1<wq.heap.size:=IEq.lt bQ;have r0:=Yr.cell 0 bQ;have r1:=Yr.cell 1 bQ;have e0:=IEq.cell 0 bQ;have e1:=IEq.cell 1 bQ;have t0:=Yr.free 0 bQ;have t1:=Yr.free 1 bQ;have s0:=IEq.free 0 bQ;have s1:=IEq.free 1 bQ;clear hbq Yr IEq;try simp only at r0 r1 e0 e1
    go_wp2_with fail;refine bodyPost_ret (v:=.tuple #[.agg #[aU xl,aU xh],.agg #[aU 0,aU (-1)]]) ?_ rfl ⟨rfl,?_⟩
    ·simp[results,Tryz.results42,go_sem, *]
    ·exact(((HBq.out.setCell dY _).setCell dY _).setCell dY _).setCell dY _
 ·rw[dB he]at hr;subst hr;have tn:(er !=0)=true:=ap8;have CX:=bW he;clear he mQ uH yR HL;go_upto_region 10 with fail;generalize hW:World.alloc w7 _=w8;have f0:w8.cell? ⟨w7.heap.size,0,none⟩=some (aU er):=qY;have f1:w8.cell? ⟨w7.heap.size,1,none⟩=some (aU pl):=qY;have arS:Below w7.heap.size w7 w8:=hW▸(Below.refl _ _).alloc (Nat.le_refl _) _;have akV:=bW (akT.out.later arS (akT.out.lt bQ));have agm:=bW (akU.out.later arS (akU.out.lt bQ));have avZ:=bW (HLB.out.trans (arS.mono HLB.out.size));have zf:w7.heap.size<w8.heap.size:=block_lt_of_cell f0;clear hW arS akT akU HLB;have r0:=akV.out.cell 0 bQ;have r1:=akV.out.cell 1 bQ;have e0:=agm.out.cell 0 bQ;have e1:=agm.out.cell 1 bQ;have t0:=akV.out.free 0 bQ;have t1:=akV.out.free 1 bQ;have s0:=agm.out.free 0 bQ;have s1:=agm.out.free 1 bQ;have zw:w.heap.size+1<w8.heap.size:=agm.out.lt bQ;try simp only at r0 r1 e0 e1
  go_cut [] (fun wx=>wx.cell? ⟨w.heap.size,0,none⟩=some (aU 0)∧wx.cell? ⟨w.heap.size,1,none⟩=some (aU 0)∧wx.cell? ⟨w.heap.size+1,0,none⟩=some (aU er)∧wx.cell? ⟨w.heap.size+1,1,none⟩=some (aU pl)∧Below w.heap.size w wx)
  case first =>
   as_aux_lemma =>
    go_region;all_goals go_wp2_with fail
    all_goals go_meet
    all_goals go_light
    all_goals refine⟨?_,?_,?_,?_,?_⟩
    all_goals first|(simp[go_sem, *];done)|(repeat' (first|with_reducible exact avZ.out|with_reducible refine Below.drew ?_|with_reducible refine Below.setCell ?_ ?_ _|(simp;done)|(simp;omega)|omega))
  case rest =>
   obtain⟨r0,r1,e0,e1,hbx⟩:=hcut;obtain⟨wx,hwx⟩:∃ x,x=wc:=⟨_,rfl⟩;subst hwx;go_wp2_with fail;refine bodyPost_ret (v:=.tuple #[.agg #[aU 0,aU 0],.agg #[aU er,aU pl]]) ?_ rfl ⟨rfl,hbx⟩;simp[results,Tryz.results42,go_sem, *]
theorem aID(oa:Option Addr)(n cap:Nat)(S:Nat→Step)(hcap:n≤cap)(w:World)(hs:xY w oa S n)(hin:∀ j,j<n→In64 (S j).off∧In64 (S j).num)(hg:nH w) :
  Calls Tryz.prog 42 #[.slice oa n cap] w (ac1 w (verify S n)):=by
 unfold verify check;by_cases h:n<1∨200<n
 ·rw[dB h,dB dY];exact aEt _ 4 (-1) dS w fun w' hb=>azu oa n cap h hcap w'
 ·rw[dw h];obtain⟨a,ea,hs2⟩:=hs bQ;subst ea;by_cases h0:(from_ S n 0 n).1=0
  ·rw[dw acT];refine aNy a n cap S bQ bQ hcap w hs2 (aar.of h0 hin) hg fun w' hb=>(aoJ a n cap S bQ bQ hcap w' (hs2.later hb)).mono fun e w'' ⟨he,hb2⟩=>⟨?_,hb2⟩;rw[amP _ _ h0]at he;exact he
  ·rw[dB h0];exact aEt _ _ _ h0 w fun w' hb=>aoJ a n cap S bQ bQ hcap w' (hs2.later hb)
theorem azw{W W':World}{C:Nat}{c c':HC}{v:Value}{pl:List RP}(h:nM W C c v pl){i:Nat}{x y:RP}(hx:pl[i]?=some x)(hf:dQ (fun b=>b=x.2.1) W W')(hy:y.2.1=x.2.1)(hp:BD W' y)(hc:c'.l=c.l.set i y.1)(hn:c'.next=c.next) :
  nM W' C c' v (pl.set i y):=by
 have hil:i<pl.length:=(List.getElem?_eq_some_iff.1 hx).1;have hpx:=h.LP x (List.mem_of_getElem? hx);have no:∀ {b:Nat} {t:TypeId},Typed W b t→t≠59→¬b=x.2.1:=fun ht n e=>n ((e▸ht).same hpx.typed);have same:∀ {β:Type} (f:RP→β),f y=f x→(pl.set i y).map f=pl.map f:=fun f hfy=>by
  apply List.ext_getElem?;intro j;rw[List.getElem?_map,List.getElem?_map,List.getElem?_set];by_cases e:i=j
  ·subst e;rw[dB rfl,dB hil,hx];simp[hfy]
  ·rw[dw e]
 have hmap:(pl.set i y).map wR=pl.map wR:=same wR (by unfold wR;rw[hy]);refine⟨?_,?_,?_,fun z hz=>?_,?_⟩
 ·rw[List.map_set,h.l,hc]
 ·rw[hn];exact(hf.block C h.typed.lt (no h.typed dS)).trans h.blk
 ·rw[hmap,List.length_set];exact hf.row h.row fun k hk=>no (kD h.row k hk) dS
 ·obtain⟨j,hj⟩:=List.mem_iff_getElem?.1 hz;rw[List.getElem?_set]at hj;by_cases e:i=j
  ·subst e;rw[dB rfl,dB hil]at hj;rw[←Option.some.inj hj];exact hp
  ·rw[dw e]at hj;refine(h.LP z (List.mem_of_getElem? hj)).fG hf (fun ez=>?_) fun k hk=>no hk dS;have h1:(pl.map (·.2.1))[i]?=some x.2.1:=by rw[List.getElem?_map,hx];rfl
   have h2:(pl.map (·.2.1))[j]?=some x.2.1:=by rw[List.getElem?_map,hj];simp[ez]
   have hlen:i<(pl.map (·.2.1)).length:=by rw[List.length_map];exact hil
   exact e ((List.getElem?_inj hlen h.apart).1 (h1.trans h2.symm))
 ·rw[same (·.2.1) hy];exact h.apart
theorem azx{C:Nat}{pl:List RP}{i:Nat}{x y:RP}(hx:pl[i]?=some x)(hy:y.2.1=x.2.1):∀ b,iT C (pl.set i y) b→iT C pl b:=by
 intro b hb;rcases hb with hb|⟨z,hz,hb⟩
 ·exact .inl hb
 ·rcases List.mem_or_eq_of_mem_set hz with hz|rfl
  ·exact .inr ⟨z,hz,hb⟩
  ·exact .inr ⟨x,List.mem_of_getElem? hx,by rw[←hy];exact hb⟩
theorem aH0{W:World}{x:RP}(h:BD W x){L:List Step}{u:Value}{B:Nat}(hu:W.ownsRow B 110 6 u L.length (rowOf L)):BD (W.setCell ⟨x.2.1,2,none⟩ u) (({ x.1 with code:=L}:HP),x.2.1,u):=by
 have hf:=D5 W x.2.1 2 u;refine⟨?_,amO (hf.row hu fun k hk e=>(kD hu k hk).ne (e▸h.typed) dS rfl) (Nat.zero_le _)⟩;simp[World.setCell,Array.getElem?_modify,h.blk];rfl
theorem azy{w:World}{g:Nat}{e:TypeId}{size:Nat}(h:w.heap[g]?=some (.cells #[] e (0,0))){B:Nat}(hB:B≤g):w.ownsRow B e size (.slice (some ⟨g,0,none⟩) 0 0) 0 [] :=
 ⟨by simp,.inr ⟨g,0,#[],rfl,hB,h,Nat.le_refl _,by unfold maxLen;omega,by simp,by simp⟩⟩
theorem aH1{w:World}{C:Nat}{c:HC}{v:Value}{pl:List RP}(h:nM w C c v pl)(h8:pl.length≤8)(id:Int)(oa:Option Addr)(cap:Nat)(L:List Step)(hcap:L.length≤cap)(hs:xY w oa (nth L) L.length)(hin:∀ j,j<L.length→In64 (nth L j).off∧In64 (nth L j).num)(ha:nH w)
  (hf:hfind c.l id<c.l.length) (hv:(verify (nth L) L.length).1.1=0) :
  Calls Tryz.prog 25 #[.pointer (some ⟨C,0,none⟩),aU id,.slice oa L.length cap] w fun e w'=>e=.returned (.agg #[aU 0,aU (-1)]) ∧
   ∃ jQ,nM w' C { c with l:=c.l.modify (hfind c.l id) fun p=>{ p with code:=L}} v jQ∧dQ (iT C pl) w w'∧∀ b,iT C jQ b→iT C pl b∨w.heap.size≤b:=by
 refine azz ?_;intro hpl x hx D6 C1;obtain⟨hl1,hl2⟩:=aeK hv;unfold ac1 at C1;generalize verify (nth L) L.length=X at C1 hv;obtain⟨⟨er,p⟩,⟨lo,hi⟩⟩:=X;obtain rfl:er=0:=hv;obtain⟨a,rfl,hcs⟩:=hs bQ;have hz0:=h.typed.lt;have HCS:=bW hcs;have uS:=bW C1;have HX:=bW hx;have H:=bW h;clear C1 h hs hin ha hcs hx hpl;unfold wR at D6;go_enter Tryz.func25,Tryz.ntmps25;go_upto_region 1 with fail;refine ati ?_;intro w1 hW hb1 LQ;have Ze:=bW (show Typed w1 w.heap.size 63 from hW▸⟨_,heap_alloc_new w _⟩);have HB1:=bW hb1;have Ny:=bW LQ;clear hW hb1 LQ;go_wp2_with fail;refine(D6.out w1 HB1.out).mono ?_;rintro e w1 ⟨rfl,rfl⟩;go_wp2_with fail;refine(uS.out _ HB1.out).mono ?_;rintro e w2 ⟨rfl,hb2⟩;have HB2:=bW (HB1.out.trans (hb2.mono HB1.out.size));have ajs:=bW hb2;have atj:=bW (Ny.out.later hb2 (Ny.out.lt bQ));clear hb2;go_upto_region 7 with fail;generalize hW:World.alloc (World.alloc w2 _) _=w3;have hb3:Below w2.heap.size w2 w3:=hW▸(((Below.refl w2.heap.size w2).alloc (Nat.le_refl _) _).alloc dY _);have HB3:=bW (HB2.out.trans (hb3.mono HB2.out.size));have azA:=bW (ajs.out.trans (hb3.mono ajs.out.size));have azB:=bW (atj.out.later hb3 (atj.out.lt bQ));clear hW hb3 atj Ny;obtain⟨i0,hi0,hz0',hz1,hz2⟩:=info_parts atl;have Hq:=bW (H.out.later HB3.out);have HPX:=bW (Hq.out.LP x (List.mem_of_getElem? HX.out));have q2:w3.cell? ⟨x.2.1,2,none⟩=some x.2.2:=(HPX.out.cell 2).trans rfl;have f2:=HPX.out.free 2
 have zx:=HPX.out.typed.lt;have HRL:=bW (amG L);have apy:=bW (fun O=>(show ∀ j u,(rowOf L)[j]?=some u→(w3.alloc O).cell? (a.add j)=some u by
  have:=(HCS.out.later (HB3.out.alloc HB3.out.size O)).row
  rwa [apz]at this))
 have Yw:=bW q2;have HF2:=bW f2;clear q2 f2;go_wp2_with (at_builtin;refine wpList_append_lies _ iC (.tmp 26) (.tmp 27) 33 iC w3.heap.size 110 i0 _ 6 48 Tryz.underlying33 hi0 hz0' hz1 hz2 rfl bQ (.slice (some ⟨w3.heap.size,0,none⟩) 0 0) 0 [] iC (azy (heap_alloc_new w3 _) (Nat.le_refl _)) a L.length cap (rowOf L) iC HRL.out (apy.out _) (atm L) bQ JF bQ dY (w3.heap.size+1) dY ?_;intro g7 JH w7 Tt Zg _ _;have hb7:Below w3.heap.size w3 w7:=Below.grown ((Below.refl w3.heap.size w3).alloc (Nat.le_refl _) _) Zg dY (fun b hb=>by cases hb;exact Nat.le_refl _);have q7:=(hb7.cell (p:=⟨x.2.1,2,none⟩) zx).trans Yw.out;have f7:=(hb7.frozen (p:=⟨x.2.1,2,none⟩) zx).trans HF2.out;have z7:x.2.1<w7.heap.size:=Nat.lt_of_lt_of_le zx hb7.size;have atn:=bW Tt;have HB7:=bW hb7;clear Tt Zg hb7);have zL:=bW (Hq.out.later HB7.out);have azC:=zL.out.LP x (List.mem_of_getElem? HX.out);have hcx:c.l[hfind c.l id]?=some x.1:=(congrArg (fun l:List HP=>l[hfind c.l id]?) H.out.l).symm.trans (by show(pl.map (·.1))[hfind c.l id]?=_;rw[List.getElem?_map,HX.out];rfl);have hc8:=azw (c':={ c with l:=c.l.modify (hfind c.l id) fun p=>{ p with code:=L}}) zL.out HX.out (D5 w7 x.2.1 2 (.slice (some ⟨g7,0,none⟩) L.length JH)) (y:=(({ x.1 with code:=L}:HP),x.2.1,.slice (some ⟨g7,0,none⟩) L.length JH)) rfl (aH0 azC (by have:=atn.out;rwa [Nat.zero_add,List.nil_append]at this)) (azD hcx _) rfl
 have hf8:dQ (iT C pl) w (w7.setCell ⟨x.2.1,2,none⟩ (.slice (some ⟨g7,0,none⟩) L.length JH)):=(dQ.of (HB3.out.trans (HB7.out.mono HB3.out.size))).trans ((D5 w7 x.2.1 2 _).mono fun b _ e=>.inr ⟨x,List.mem_of_getElem? HX.out,e.symm⟩);have hxw:x.2.1<w.heap.size:=(H.out.LP x (List.mem_of_getElem? HX.out)).typed.lt;have i8:=(D5 w7 x.2.1 2 (.slice (some ⟨g7,0,none⟩) L.length JH)).img (azB.out.later HB7.out (azB.out.lt bQ)) bQ bQ;have t8':Typed (w7.setCell ⟨x.2.1,2,none⟩ (.slice (some ⟨g7,0,none⟩) L.length JH)) w.heap.size 63:=by
  obtain⟨cc,hcc⟩:=Ze.out;have hl:=(Array.getElem?_eq_some_iff.1 hcc).1;have aH2:Below w1.heap.size w1 w7:=azA.out.trans (HB7.out.mono azA.out.size);exact Qm ⟨cc,(aH2.block _ hl).trans hcc⟩ _ _
 generalize World.setCell w7 _ _=w8 at hc8 hf8 i8 t8' ⊢;have HC8:=bW hc8;have HF8:=bW hf8;have QS:=bW i8;have HT8:=bW t8';clear hc8 hf8 i8 t8' q7 f7 azC hcx;refine(Yk _ _).mono ?_;rintro e w9 ⟨rfl,XK⟩;have I9:=QS.out.later XK (QS.out.lt bQ);have b0:=I9.cell 0 bQ;have b1:=I9.cell 1 bQ;have g0:=I9.free 0 bQ;have g1:=I9.free 1 bQ;have z9:w.heap.size<w9.heap.size:=I9.lt bQ;have HB9:=bW XK;clear XK I9;go_wp2_with fail;refine bodyPost_ret (v:=.agg #[aU 0,aU (-1)]) (by simp[results,Tryz.results25,go_sem,b0,b1,g0,g1,z9]) rfl ⟨rfl,pl.set (hfind c.l id) ((({ x.1 with code:=L}:HP),x.2.1,.slice (some ⟨g7,0,none⟩) L.length JH)),?_,?_,fun b hb=>.inl (azx HX.out (y:=(({ x.1 with code:=L}:HP),x.2.1,.slice (some ⟨g7,0,none⟩) L.length JH)) rfl b hb)⟩
 ·have h9:=HC8.out.later HB9.out;have t9:Typed w9 w.heap.size 63:=by
   obtain⟨cc,hcc⟩:=HT8.out;exact⟨cc,(HB9.out.block _ (Array.getElem?_eq_some_iff.1 hcc).1).trans hcc⟩
  have no:∀ {W:World} {b:Nat} {t:TypeId},Typed W w.heap.size 63→Typed W b t→t≠63→¬b=w.heap.size:=fun hW ht n e=>n ((e▸ht).same hW);have h10:=h9.fG (D5 w9 w.heap.size 0 (aU 0)) (fun b hb=>by
   rcases iT.kind h9 hb with hb|hb
   ·exact no t9 hb dS
   ·exact no t9 hb dS) (fun b ht=>no t9 ht dS) (fun b ht=>no t9 ht dS)
  have t10:=Qm t9 ⟨w.heap.size,0,none⟩ (aU 0);exact h10.fG (D5 _ w.heap.size 1 (aU (-1))) (fun b hb=>by
   rcases iT.kind h10 hb with hb|hb
   ·exact no t10 hb dS
   ·exact no t10 hb dS) (fun b ht=>no t10 ht dS) (fun b ht=>no t10 ht dS)
 ·exact((HF8.out.trans (dQ.of HB9.out)).apA (p:=⟨w.heap.size,0,none⟩) (Nat.le_refl _) _).apA (p:=⟨w.heap.size,1,none⟩) (Nat.le_refl _) _
theorem aH3{w:World}{C:Nat}{c:HC}{v:Value}{pl:List RP}(h:nM w C c v pl)(h8:pl.length≤8)(id:Int)(u:Value)(hf:¬hfind c.l id<c.l.length) :
  Calls Tryz.prog 25 #[.pointer (some ⟨C,0,none⟩),aU id,u] w fun e w'=>e=.returned (.agg #[aU 7,aU (-1)])∧Below w.heap.size w w':=by
 have D6:=bW (fun W (hb:Below w.heap.size w W)=>azE (h.later hb) h8 id (apl hf));clear h;go_enter Tryz.func25,Tryz.ntmps25;go_upto_region 1 with fail;refine apB ?_;intro w1 HB1 Ny;go_wp2_with fail;refine(D6.out w1 HB1.out).mono ?_;rintro e w1 ⟨rfl,rfl⟩;go_wp2_with fail;refine(Yk _ _).mono ?_;refine ato ?_;intro w2 HB2 b0 b1 g0 g1 z2;go_wp2_with fail;exact bodyPost_ret (v:=.agg #[aU 7,aU (-1)]) azF rfl ⟨rfl,apC⟩
theorem aH4{w:World}{C:Nat}{c:HC}{v:Value}{pl:List RP}(h:nM w C c v pl)(h8:pl.length≤8)(id:Int)(oa:Option Addr)(cap:Nat)(L:List Step)(hcap:L.length≤cap)(hs:xY w oa (nth L) L.length)(hin:∀ j,j<L.length→In64 (nth L j).off∧In64 (nth L j).num)(ha:nH w)
  (hf:hfind c.l id<c.l.length) (hv:(verify (nth L) L.length).1.1≠0) :
  Calls Tryz.prog 25 #[.pointer (some ⟨C,0,none⟩),aU id,.slice oa L.length cap] w fun e w'=>e=.returned (.agg #[aU (verify (nth L) L.length).1.1,aU (verify (nth L) L.length).1.2])∧Below w.heap.size w w':=by
 refine azz ?_;intro hpl x hx D6 C1;unfold ac1 at C1;generalize verify (nth L) L.length=X at C1 hv ⊢;obtain⟨⟨er,p⟩,⟨lo,hi⟩⟩:=X;have hne:(er==0)=false:=by simpa using hv
 have uS:=bW C1;clear C1 h hs hin ha hx hpl hf hv;unfold wR at D6;go_enter Tryz.func25,Tryz.ntmps25;go_upto_region 1 with fail;refine apB ?_;intro w1 HB1 Ny;go_wp2_with fail;refine(D6.out w1 HB1.out).mono ?_;rintro e w1 ⟨rfl,rfl⟩;go_wp2_with fail;refine(uS.out _ HB1.out).mono ?_;refine ato ?_;intro w2 HB2 b0 b1 g0 g1 z2;go_wp2_with fail;exact bodyPost_ret (v:=.agg #[aU er,aU p]) azF rfl ⟨rfl,apC⟩
theorem aH5{w:World}{C:Nat}{c:HC}{v:Value}{pl:List RP}(h:nM w C c v pl)(h8:pl.length≤8)(id:Int)(oa:Option Addr)(cap:Nat)(L:List Step)(hcap:L.length≤cap)(hs:xY w oa (nth L) L.length)(hin:∀ j,j<L.length→In64 (nth L j).off∧In64 (nth L j).num)(ha:nH w) :
  Calls Tryz.prog 25 #[.pointer (some ⟨C,0,none⟩),aU id,.slice oa L.length cap] w fun e w'=>e=.returned (.agg #[aU (c.replace id L).2.1,aU (c.replace id L).2.2]) ∧
   (∃ jQ,nM w' C (c.replace id L).1 v jQ∧dQ (iT C pl) w w'∧∀ b,iT C jQ b→iT C pl b∨w.heap.size≤b)∧((c.replace id L).2.1≠0→Below w.heap.size w w'):=by
 by_cases hf:hfind c.l id<c.l.length
 ·by_cases hv:(verify (nth L) L.length).1.1=0
  ·have e:c.replace id L=({ c with l:=c.l.modify (hfind c.l id) fun p=>{ p with code:=L}},(0,-1)):=by unfold HC.replace;rw[dB hf,dw ac2]
   rw[e];exact(aH1 h h8 id oa cap L hcap hs hin ha hf hv).mono fun e w' ⟨he,hb⟩=>⟨he,hb,fun h=>absurd rfl h⟩
  ·have e:c.replace id L=(c,(verify (nth L) L.length).1):=by unfold HC.replace;rw[dB hf,dB hv]
   rw[e];exact(aH4 h h8 id oa cap L hcap hs hin ha hf hv).mono fun e w' ⟨he,hb⟩=>⟨he,⟨pl,h.later hb,dQ.of hb,fun b hb=>.inl hb⟩,fun _=>hb⟩
 ·have e:c.replace id L=(c,(7,-1)):=by unfold HC.replace;rw[dw hf]
  rw[e];exact(aH3 h h8 id _ hf).mono fun e w' ⟨he,hb⟩=>⟨he,⟨pl,h.later hb,dQ.of hb,fun b hb=>.inl hb⟩,fun _=>hb⟩
end Go.Proofs.YtglilddlhibogaaGreatDoor.W
