/- Closed pieces of proofs that come again and again, each a proposition's own proof. -/
import Derived.Test.YtglilddlhibogaaGreatDoorZZ0
set_option maxRecDepth 100000
namespace Go.Proofs
variable{p q:Prop}
theorem fH(h:p:=by rw[hc1 _ _ fD];first|(simp[go_sem];done)|assumption|(simp[go_sem, *];done)):p:=h
theorem fO(h:p:=by rw[hf1 _ _ fD];first|(simp[go_sem];done)|assumption|(simp[go_sem, *];done)):p:=h
theorem atw(h:q)(k:eG q→p:=by
 intro zq
 (rintro e w1 ⟨rfl,hb⟩;obtain⟨hc1,hf1⟩:=jd hb;have hz1:=hb.size;(try simp at hz1);have HW1:=bW (show Below w.heap.size w w1 from Below.trans gI (hb.mono fD));clear hb;have z10:w.heap.size<w1.heap.size:=bQ;have z11:w.heap.size+1<w1.heap.size:=bQ;have z12:w.heap.size+1+1<w1.heap.size:=bQ;have z13:w.heap.size+1+1+1<w1.heap.size:=bQ)
 have OE:w1.cell? ⟨w.heap.size,0,none⟩=some (aU (al)):=xQ
 have V7:w1.frozen? ⟨w.heap.size,0,none⟩=false:=xW
 have OG:w1.cell? ⟨w.heap.size,1,none⟩=some (aU (ah)):=xQ
 have V9:w1.frozen? ⟨w.heap.size,1,none⟩=false:=xW
 have OH:w1.cell? ⟨w.heap.size+1,0,none⟩=some (aU (bl)):=xQ
 have Wn:w1.frozen? ⟨w.heap.size+1,0,none⟩=false:=xW
 have OI:w1.cell? ⟨w.heap.size+1,1,none⟩=some (aU (bh)):=xQ
 have Wp:w1.frozen? ⟨w.heap.size+1,1,none⟩=false:=xW
 have Rt:w1.cell? ⟨w.heap.size+1+1,0,none⟩=some (aU (0)):=xQ
 have Yl:w1.frozen? ⟨w.heap.size+1+1,0,none⟩=false:=xW
 have Ru:w1.cell? ⟨w.heap.size+1+1,1,none⟩=some (aU (0)):=xQ
 have Ym:w1.frozen? ⟨w.heap.size+1+1,1,none⟩=false:=xW
 have OJ:w1.cell? ⟨w.heap.size+1+1+1,0,none⟩=some (aU (0)):=xQ
 have Wq:w1.frozen? ⟨w.heap.size+1+1+1,0,none⟩=false:=xW
 have OL:w1.cell? ⟨w.heap.size+1+1+1,1,none⟩=some (aU (0)):=xQ
 have Ws:w1.frozen? ⟨w.heap.size+1+1+1,1,none⟩=false:=xW
 clear hc1 hf1
 revert Ws;revert OL;revert Wq;revert OJ;revert Ym;revert Ru;revert Yl;revert Rt;revert Wp;revert OI;revert Wn;revert OH;revert V9;revert OG;revert V7;revert OE;revert z13;revert z12;revert z11;revert z10;revert HW1;revert hz1;revert w1
 exact zq.1):p:=k ⟨h⟩
theorem atN(h:q)(k:eG q→p:=by
 intro zq
 rw[HO.out]
 (rintro e w1 ⟨rfl,hb⟩;obtain⟨hc1,hf1⟩:=jd hb;have hz1:=hb.size;(try simp at hz1);have HW1:=bW (show Below w.heap.size w w1 from Below.trans gI (hb.mono fD));clear hb;have z10:w.heap.size<w1.heap.size:=bQ;have z11:w.heap.size+1<w1.heap.size:=bQ;have z12:w.heap.size+1+1<w1.heap.size:=bQ;have z13:w.heap.size+1+1+1<w1.heap.size:=bQ)
 have OE:w1.cell? ⟨w.heap.size,0,none⟩=some (aU (al)):=xQ
 have V7:w1.frozen? ⟨w.heap.size,0,none⟩=false:=xW
 have OG:w1.cell? ⟨w.heap.size,1,none⟩=some (aU (ah)):=xQ
 have V9:w1.frozen? ⟨w.heap.size,1,none⟩=false:=xW
 have OH:w1.cell? ⟨w.heap.size+1,0,none⟩=some (aU (bl)):=xQ
 have Wn:w1.frozen? ⟨w.heap.size+1,0,none⟩=false:=xW
 have OI:w1.cell? ⟨w.heap.size+1,1,none⟩=some (aU (bh)):=xQ
 have Wp:w1.frozen? ⟨w.heap.size+1,1,none⟩=false:=xW
 have Rt:w1.cell? ⟨w.heap.size+1+1,0,none⟩=some (aU (0)):=xQ
 have Yl:w1.frozen? ⟨w.heap.size+1+1,0,none⟩=false:=xW
 have Ru:w1.cell? ⟨w.heap.size+1+1,1,none⟩=some (aU (0)):=xQ
 have Ym:w1.frozen? ⟨w.heap.size+1+1,1,none⟩=false:=xW
 have OJ:w1.cell? ⟨w.heap.size+1+1+1,0,none⟩=some (aU (0)):=xQ
 have Wq:w1.frozen? ⟨w.heap.size+1+1+1,0,none⟩=false:=xW
 have OL:w1.cell? ⟨w.heap.size+1+1+1,1,none⟩=some (aU (0)):=xQ
 have Ws:w1.frozen? ⟨w.heap.size+1+1+1,1,none⟩=false:=xW
 revert Ws;revert OL;revert Wq;revert OJ;revert Ym;revert Ru;revert Yl;revert Rt;revert Wp;revert OI;revert Wn;revert OH;revert V9;revert OG;revert V7;revert OE;revert z13;revert z12;revert z11;revert z10;revert HW1;revert hz1;revert hf1;revert hc1;revert w1
 exact zq.1):p:=k ⟨h⟩
theorem iU(h:p:=by first|omega|(simp[bad,two];done)|(simp[bad,two];omega)):p:=h
theorem uT(h:p:=by repeat (first|exact Below.refl _ _|refine Below.drew ?_|refine Below.drewN' ?_ _|refine Below.alloc ?_ (by simp;try omega) _|refine Below.setCell ?_ (by simp;try omega) _|refine Below.trans ?_ (Below.mono rM (by simp;try omega))|refine Below.trans ?_ (Below.mono (Lib.Hid.out rM) (by simp;try omega)))):p:=h
theorem gI(h:p:=by repeat' (first|with_reducible (first|exact HW0.out|apply bR|apply bD|apply bN|apply bA|apply bS)|(simp;done)|(simp;omega)|omega)):p:=h
theorem eF(h:p:=by first|rfl|(simp[go_sem,KZ,Lc,a0,a1,JV,Gz,b0,b1,GH,GI,d0,d1,d2,d3,yc,y2,y4,n10];done)|(simp;omega)|omega):p:=h
theorem fD(h:p:=by first|omega|simp<;>omega):p:=h
theorem jZ(h:p:=by repeat' (first|with_reducible (first|exact HW1.out|apply bR|apply bD|apply bN|apply bA|apply bS)|(simp;done)|(simp;omega)|omega)):p:=h
theorem bQ(h:p:=by omega):p:=h
theorem jW(h:p:=by rw[hc1 _ _ fD];first|done|(simp[go_sem];done)|assumption):p:=h
theorem am3(h:q)(k:eG q→p:=by
 intro zq
 have f3':w2.cell? ⟨w.heap.size,3,none⟩=some (.bool r):=(hB2.cell (p:=⟨w.heap.size,3,none⟩) z0).trans f3
 have y0':w2.cell? ⟨w.heap.size+1,0,none⟩=some (.int .u8 (kl y.kind)):=(hB2.cell (p:=⟨w.heap.size+1,0,none⟩) hz).trans y0
 have y1':w2.cell? ⟨w.heap.size+1,1,none⟩=some (aU y.n):=(hB2.cell (p:=⟨w.heap.size+1,1,none⟩) hz).trans y1
 have y2':w2.cell? ⟨w.heap.size+1,2,none⟩=some (aU y.cell):=(hB2.cell (p:=⟨w.heap.size+1,2,none⟩) hz).trans y2
 revert y2';revert y1';revert y0';revert f3'
 exact zq.1):p:=k ⟨h⟩
theorem am4(h:p:=by exact bodyPost_ret (v:=.agg #[aU ((-9223372036854775808)),aU (9223372036854775807)]) Df rfl ⟨rfl,gI⟩):p:=h
theorem gK(h:p:=by rw[hc _ _ atO];simp[go_sem, *];done):p:=h
theorem JI(h:q)(k:eG q→p:=by
 intro zq
 have HW0:=bW (Below.refl w.heap.size w);have Ep:4<w.heap.size+1:=bQ;have FC:4<w.heap.size+1+1:=bQ;have EJ:4<w.heap.size+1+1+1:=bQ;have FD:4<w.heap.size+1+1+1+1:=bQ;have FT:4<w.heap.size+1+1+1+1+1:=bQ;have Gl:4<w.heap.size+1+1+1+1+1+1:=bQ;have Gm:4<w.heap.size+1+1+1+1+1+1+1:=bQ
 revert Gm;revert Gl;revert FT;revert FD;revert EJ;revert FC;revert Ep;revert HW0
 exact zq.1):p:=k ⟨h⟩
theorem aIj(h:q)(k:eG q→p:=by
 intro zq
 (rintro e w2 ⟨rfl,hb⟩;obtain⟨hc2,hf2⟩:=jd hb;have hz2:=hb.size;(try simp at hz2);have HW2:=bW (show Below w.heap.size w w2 from Below.trans jZ (hb.mono fD));clear hb;have z20:w.heap.size<w2.heap.size:=bQ;have z21:w.heap.size+1<w2.heap.size:=bQ;have z22:w.heap.size+1+1<w2.heap.size:=bQ;have z23:w.heap.size+1+1+1<w2.heap.size:=bQ)
 have amS:w2.cell? ⟨w.heap.size,0,none⟩=some (aU (Ie)):=Og
 have aty:w2.frozen? ⟨w.heap.size,0,none⟩=false:=Oh
 have amT:w2.cell? ⟨w.heap.size,1,none⟩=some (aU (Ig)):=Og
 have atz:w2.frozen? ⟨w.heap.size,1,none⟩=false:=Oh
 have amU:w2.cell? ⟨w.heap.size+1,0,none⟩=some (aU (bl)):=Og
 have atA:w2.frozen? ⟨w.heap.size+1,0,none⟩=false:=Oh
 have amV:w2.cell? ⟨w.heap.size+1,1,none⟩=some (aU (bh)):=Og
 have atB:w2.frozen? ⟨w.heap.size+1,1,none⟩=false:=Oh
 have amW:w2.cell? ⟨w.heap.size+1+1,0,none⟩=some (aU (0)):=Og
 have atC:w2.frozen? ⟨w.heap.size+1+1,0,none⟩=false:=Oh
 have amX:w2.cell? ⟨w.heap.size+1+1,1,none⟩=some (aU (0)):=Og
 have atG:w2.frozen? ⟨w.heap.size+1+1,1,none⟩=false:=Oh
 have amY:w2.cell? ⟨w.heap.size+1+1+1,0,none⟩=some (aU (0)):=Og
 have atH:w2.frozen? ⟨w.heap.size+1+1+1,0,none⟩=false:=Oh
 have amZ:w2.cell? ⟨w.heap.size+1+1+1,1,none⟩=some (aU (0)):=Og
 have atI:w2.frozen? ⟨w.heap.size+1+1+1,1,none⟩=false:=Oh
 clear hc2 hf2
 revert atI;revert amZ;revert atH;revert amY;revert atG;revert amX;revert atC;revert amW;revert atB;revert amV;revert atA;revert amU;revert atz;revert amT;revert aty;revert amS;revert z23;revert z22;revert z21;revert z20;revert HW2;revert hz2;revert w2
 exact zq.1):p:=k ⟨h⟩
theorem ru(h:p:=by rw[hf1 _ _ fD];first|done|(simp[go_sem];done)|assumption):p:=h
theorem Uy(h:q)(k:eG q→p:=by
 intro zq
 (rintro e w1 ⟨rfl,hb⟩;obtain⟨hc1,hf1⟩:=jd hb;have hz1:=hb.size;(try simp at hz1);have HW1:=bW (show Below w.heap.size w w1 from Below.trans gI (hb.mono fD));clear hb;have z10:w.heap.size<w1.heap.size:=bQ;have z11:w.heap.size+1<w1.heap.size:=bQ)
 revert z11;revert z10;revert HW1;revert hz1;revert hf1;revert hc1;revert w1
 exact zq.1):p:=k ⟨h⟩
theorem lY(h:p:=by rw[hf _ _ atO];simp[go_sem, *]):p:=h
theorem apM(h:q)(k:eG q→p:=by
 intro zq
 refine(YA _ _ _ _ _).mono ?_
 rw[HM.out]
 (rintro e w1 ⟨rfl,hb⟩;obtain⟨hc1,hf1⟩:=jd hb;have hz1:=hb.size;(try simp at hz1);have HW1:=bW (show Below w.heap.size w w1 from Below.trans gI (hb.mono fD));clear hb;have z10:w.heap.size<w1.heap.size:=bQ;have z11:w.heap.size+1<w1.heap.size:=bQ;have z12:w.heap.size+1+1<w1.heap.size:=bQ;have z13:w.heap.size+1+1+1<w1.heap.size:=bQ;have NT:w.heap.size+1+1+1+1<w1.heap.size:=bQ)
 have zG:w.heap.size<w1.heap.size:=bQ
 have Uz:w1.cell? ⟨w.heap.size,0,none⟩=some (aU (al)):=jW
 have XM:w1.frozen? ⟨w.heap.size,0,none⟩=false:=ru
 have UA:w1.cell? ⟨w.heap.size,1,none⟩=some (aU (ah)):=jW
 have XP:w1.frozen? ⟨w.heap.size,1,none⟩=false:=ru
 have zH:w.heap.size+1<w1.heap.size:=bQ
 have UC:w1.cell? ⟨w.heap.size+1,0,none⟩=some (aU (bl)):=jW
 have UD:w1.cell? ⟨w.heap.size+1,1,none⟩=some (aU (bh)):=jW
 have zI:w.heap.size+1+1<w1.heap.size:=bQ
 have UE:w1.cell? ⟨w.heap.size+1+1,0,none⟩=some (aU (0)):=jW
 have XR:w1.frozen? ⟨w.heap.size+1+1,0,none⟩=false:=ru
 have UF:w1.cell? ⟨w.heap.size+1+1,1,none⟩=some (aU (0)):=jW
 have XT:w1.frozen? ⟨w.heap.size+1+1,1,none⟩=false:=ru
 have zJ:w.heap.size+1+1+1<w1.heap.size:=bQ
 have UG:w1.cell? ⟨w.heap.size+1+1+1,0,none⟩=some (aU (0)):=jW
 have XU:w1.frozen? ⟨w.heap.size+1+1+1,0,none⟩=false:=ru
 have UH:w1.cell? ⟨w.heap.size+1+1+1,1,none⟩=some (aU (0)):=jW
 have XV:w1.frozen? ⟨w.heap.size+1+1+1,1,none⟩=false:=ru
 have zK:w.heap.size+1+1+1+1<w1.heap.size:=bQ
 have UJ:w1.cell? ⟨w.heap.size+1+1+1+1,0,none⟩=some (aU (0)):=jW
 have UK:w1.cell? ⟨w.heap.size+1+1+1+1,1,none⟩=some (aU (0)):=jW
 clear hc1 hf1
 revert UK;revert UJ;revert zK;revert XV;revert UH;revert XU;revert UG;revert zJ;revert XT;revert UF;revert XR;revert UE;revert zI;revert UD;revert UC;revert zH;revert XP;revert UA;revert XM;revert Uz;revert zG;revert NT;revert z13;revert z12;revert z11;revert z10;revert HW1;revert hz1;revert w1
 exact zq.1):p:=k ⟨h⟩
theorem Gy(h:q)(k:eG q→p:=by
 intro zq
 (rintro e w1 ⟨rfl,hb⟩;obtain⟨hc1,hf1⟩:=jd hb;have hz1:=hb.size;(try simp at hz1);have HW1:=bW (show Below w.heap.size w w1 from Below.trans gI (hb.mono fD));clear hb;have z10:w.heap.size<w1.heap.size:=bQ;have z11:w.heap.size+1<w1.heap.size:=bQ;have z12:w.heap.size+1+1<w1.heap.size:=bQ)
 revert z12;revert z11;revert z10;revert HW1;revert hz1;revert hf1;revert hc1;revert w1
 exact zq.1):p:=k ⟨h⟩
theorem aaL(h:q)(k:eG q→p:=by
 intro zq
 (have zX:w1.cell? ⟨w.heap.size+1,0,none⟩=some (aU 0):=fH;have zZ:w1.frozen? ⟨w.heap.size+1,0,none⟩=false:=fO;have Af:w1.cell? ⟨w.heap.size+1,1,none⟩=some (aU 0):=fH;have Ah:w1.frozen? ⟨w.heap.size+1,1,none⟩=false:=fO;have Ai:w1.cell? ⟨w.heap.size+1,2,none⟩=some (aU 0):=fH;have Aj:w1.frozen? ⟨w.heap.size+1,2,none⟩=false:=fO)
 revert Aj;revert Ai;revert Ah;revert Af;revert zZ;revert zX
 exact zq.1):p:=k ⟨h⟩
theorem Ou(h:p:=by repeat' (first|with_reducible exact HWV.out|with_reducible refine Below.drew ?_|with_reducible refine Below.alloc ?_ ?_ _|with_reducible refine Below.setCell ?_ ?_ _|(simp;done)|(simp;omega)|omega)):p:=h
theorem ac4(h:q)(k:eG q→p:=by
 intro zq
 refine(CW.out _).mono ?_
 rintro e w2 ⟨rfl,hb2⟩
 have hB2:Below wd.heap.size wd w2:=by
  refine Below.trans ?_ (hb2.mono ?_)
  ·repeat' (first|with_reducible exact Below.refl _ _|with_reducible refine Below.drew ?_|with_reducible refine Below.alloc ?_ ?_ _|(simp;done))
  ·simp
 revert hB2;revert hb2;revert w2
 exact zq.1):p:=k ⟨h⟩
theorem lW(h:p:=by rw[beq_eq_false_iff_ne];omega):p:=h
theorem ajB(h:q)(k:eG q→p:=by
 intro zq
 have zx:w.heap.size<wx.heap.size:=vU.out.lt bQ
 have IO:=vU.out.later JJ zx
 have KA:=bW (sS.out.trans (But.of JJ))
 obtain⟨u0,z0⟩:∃ u,wo.cell? ⟨w.heap.size,0,none⟩=some u:=⟨_,IO.cell 0 bQ⟩
 obtain⟨u1,z1⟩:∃ u,wo.cell? ⟨w.heap.size,1,none⟩=some u:=⟨_,IO.cell 1 bQ⟩
 obtain⟨u2,z2⟩:∃ u,wo.cell? ⟨w.heap.size,2,none⟩=some u:=⟨_,IO.cell 2 bQ⟩
 have p0:=IO.free 0 bQ;have p1:=IO.free 1 bQ;have p2:=IO.free 2 bQ
 have Qv:=bW IO
 have UL:w.heap.size<wo.heap.size:=IO.lt bQ
 revert UL;revert Qv;revert p2;revert p1;revert p0;revert z2;revert u2;revert z1;revert u1;revert z0;revert u0;revert KA;revert IO;revert zx
 exact zq.1):p:=k ⟨h⟩
theorem fU(h:q)(k:eG q→p:=by
 intro zq
 have HW0:=bW (Below.refl w.heap.size w)
 revert HW0
 exact zq.1):p:=k ⟨h⟩
theorem am5(h:q)(k:eG q→p:=by
 intro zq
 refine am3 ?_;intro f3' y0' y1' y2'
 have v0:w2.cell? ⟨b,d*3,none⟩=some (.int .u8 (kl (M.regs d).kind)):=(hB2.cell (p:=⟨b,d*3,none⟩) YB).trans x0
 have v1:w2.cell? ⟨b,d*3+1,none⟩=some (aU (M.regs d).n):=(hB2.cell (p:=⟨b,d*3+1,none⟩) YB).trans x1
 have v2:w2.cell? ⟨b,d*3+2,none⟩=some (aU (M.regs d).cell):=(hB2.cell (p:=⟨b,d*3+2,none⟩) YB).trans x2
 have fv0:w2.frozen? ⟨b,d*3,none⟩=false:=HI2.out.free _ bQ
 have fv1:w2.frozen? ⟨b,d*3+1,none⟩=false:=HI2.out.free _ bQ
 have fv2:w2.frozen? ⟨b,d*3+2,none⟩=false:=HI2.out.free _ bQ
 revert fv2;revert fv1;revert fv0;revert v2;revert v1;revert v0;revert y2';revert y1';revert y0';revert f3'
 exact zq.1):p:=k ⟨h⟩
theorem iV(h:p:=by simp[go_sem];done):p:=h
theorem eU(h:p:=by simp;omega):p:=h
theorem Df(h:p:=by simp[results,Tryz.results147,go_sem,hg0,hg1,gz]):p:=h
theorem aeQ(h:q)(k:eG q→p:=by
 intro zq
 have H0:=bW h
 have HP:=bW hp
 have HAT:=bW hat
 have Oz:=bW hin
 have HID:=bW hid
 have HTO:=bW htold
 have HG:=bW hg
 have HA:=bW ha
 have hnx:0≤(d.c k).next∧(d.c k).next<1000000:=⟨(hp.ok k hk).next,by have:=hp.next k hk;omega⟩
 have UM:=bW hnx
 have k0:¬(k:Int)<0:=bQ
 have k2:¬2<(k:Int):=bQ
 have k3:(k:Int)<3:=bQ
 revert k3;revert k2;revert k0;revert UM;revert hnx;revert HA;revert HG;revert HTO;revert HID;revert Oz;revert HAT;revert HP;revert H0
 exact zq.1):p:=k ⟨h⟩
theorem ac5(h:p:=by repeat' (first|with_reducible exact yg.out|with_reducible exact Below.refl _ _|with_reducible refine Below.drew ?_|with_reducible refine Below.alloc ?_ ?_ _|with_reducible refine below_setCells ?_ _ _ _ _ ?_|(simp;done)|omega|(simp;omega))):p:=h
theorem Uu(h:p:=by repeat' (first|with_reducible (first|exact HW2.out|apply bR|apply bD|apply bN|apply bA|apply bS)|(simp;done)|(simp;omega)|omega)):p:=h
theorem aeR(h:p:=by repeat' (first|with_reducible exact HB2.out|with_reducible refine Below.drew ?_|with_reducible refine Below.alloc ?_ ?_ _|with_reducible refine Below.setCell ?_ ?_ _|(simp;done)|(simp;omega)|omega)):p:=h
theorem atP(h:q)(k:eG q→p:=by
 intro zq
 have CA:=bW (show ∀ wd dr os,Calls Tryz.prog 153 #[] (Go.Sort.grow (redrawn wd dr) os) fun e w'=>e=.returned (.agg #[aU (-9223372036854775808),aU 9223372036854775807])∧∃ p:Regrown,w'=Go.Sort.grow (redrawn wd p.d) p.os from fun wd dr os=>Calls.regrown_of (yP _))
 have CN:=bW (show ∀ lo hi wd dr os,Calls Tryz.prog 116 #[.agg #[aU lo,aU hi]] (Go.Sort.grow (redrawn wd dr) os) fun e w'=>e=.returned (.agg #[aU 1,aU lo,aU hi])∧∃ p:Regrown,w'=Go.Sort.grow (redrawn wd p.d) p.os from fun lo hi wd dr os=>Calls.regrown_of (ajD lo hi _))
 have CO:=bW (show ∀ wd dr os,Calls Tryz.prog 76 #[aU 0] (Go.Sort.grow (redrawn wd dr) os) fun e w'=>e=.returned (.agg #[aU 0,aU 0])∧∃ p:Regrown,w'=Go.Sort.grow (redrawn wd p.d) p.os from fun wd dr os=>Calls.regrown_of (acW 0 _))
 revert CO;revert CN;revert CA
 exact zq.1):p:=k ⟨h⟩
theorem ao0(h:q)(k:eG q→p:=by
 intro zq
 generalize hW:World.alloc (World.alloc w4 _) _=w5
 have hb5:Below w4.heap.size w4 w5:=hW▸((Below.refl _ _).alloc (Nat.le_refl _) _).alloc dY _
 have p0:w5.cell? ⟨w4.heap.size,0,none⟩=some (aU pl):=qY
 have p1:w5.cell? ⟨w4.heap.size,1,none⟩=some (aU ph):=qY
 have q0:w5.cell? ⟨w4.heap.size+1,0,none⟩=some (aU ql):=qY
 have q1:w5.cell? ⟨w4.heap.size+1,1,none⟩=some (aU qh):=qY
 have yq:w4.heap.size+1<w5.heap.size:=OC
 revert yq;revert q1;revert q0;revert p1;revert p0;revert hb5;revert hW;revert w5
 exact zq.1):p:=k ⟨h⟩
theorem Og(h:p:=by simp[go_sem,hc2,z10,z11,z12,z13,OE,OG,OH,OI,Rt,Ru,OJ,OL]):p:=h
theorem Oh(h:p:=by simp[go_sem,hf2,z10,z11,z12,z13,V7,V9,Wn,Wp,Yl,Ym,Wq,Ws]):p:=h
theorem azZ(h:q)(k:eG q→p:=by
 intro zq
 generalize hW:World.setCell (World.setCell (World.setCell (World.setCell w6 _ _) _ _) _ _) _ _=w7
 have AU:P.Img w7 w5.heap.size 81 (gQ fC (s.narrowed ⟨c,d,sr,true,o,nn⟩ ⟨pl,ph⟩ ⟨ql,qh⟩)):=by
  have e1:(s.narrowed ⟨c,d,sr,true,o,nn⟩ ⟨pl,ph⟩ ⟨ql,qh⟩)={ s with regs:=upd (upd s.regs sr ⟨(s.regs sr).kind,⟨ql,qh⟩⟩) d ⟨(s.regs d).kind,⟨pl,ph⟩⟩}:=by
   unfold VS.narrowed
   rw[dB rfl,dw JC]
   rfl
  rw[←hW,e1]
  have K1:=(((sJ.out).set (j:=sr*3+1) bQ (fC ⟨((s).regs sr).kind,⟨ql,qh⟩⟩ 1)).set (j:=sr*3+2) bQ (fC ⟨((s).regs sr).kind,⟨ql,qh⟩⟩ 2)).congr (agx (s:=s) sN ⟨ql,qh⟩ (fun _=>rfl))
  have K2:=(((K1).set (j:=d*3+1) bQ (fC ⟨((({ s with regs:=upd s.regs sr ⟨(s.regs sr).kind,⟨ql,qh⟩⟩}:VS)).regs d).kind,⟨pl,ph⟩⟩ 1)).set (j:=d*3+2) bQ (fC ⟨((({ s with regs:=upd s.regs sr ⟨(s.regs sr).kind,⟨ql,qh⟩⟩}:VS)).regs d).kind,⟨pl,ph⟩⟩ 2)).congr (agx (s:=({ s with regs:=upd s.regs sr ⟨(s.regs sr).kind,⟨ql,qh⟩⟩}:VS)) dN ⟨pl,ph⟩ (fun _=>rfl))
  have e2:upd s.regs sr ⟨(s.regs sr).kind,⟨ql,qh⟩⟩ d=s.regs d:=fB bQ
  simp only[e2]at K2
  exact K2
 have BU:But w5.heap.size w6 w7:=hW▸((((((((But.refl w5.heap.size w6).setCell (.inl rfl) _)).setCell (.inl rfl) _)).setCell (.inl rfl) _)).setCell (.inl rfl) _)
 have zL:=bW (Ba.out.but BU HAU.out)
 have Lj:=bW (BU.img uD.out bQ XW)
 have qx:=bW (aeS BG.out BU bQ)
 have Ld:=bW AU
 have uG:Hid (kG (s.narrowed ⟨c,d,sr,true,o,nn⟩ ⟨pl,ph⟩ ⟨ql,qh⟩)):=HS.out.narrowed _ Lu.out.1 Lu.out.2
 revert uG;revert Ld;revert qx;revert Lj;revert zL;revert BU;revert AU;revert hW;revert w7
 exact zq.1):p:=k ⟨h⟩
theorem dS(h:p:=by decide):p:=h
theorem ape(h:q)(k:eG q→p:=by
 intro zq
 (have Tf:w1.cell? ⟨w.heap.size+1+1,0,none⟩=some (.int .u8 0):=fH;have Ti:w1.frozen? ⟨w.heap.size+1+1,0,none⟩=false:=fO;have Tj:w1.cell? ⟨w.heap.size+1+1,1,none⟩=some (aU 0):=fH;have Tm:w1.frozen? ⟨w.heap.size+1+1,1,none⟩=false:=fO;have Tn:w1.cell? ⟨w.heap.size+1+1,2,none⟩=some (aU 0):=fH;have Tq:w1.frozen? ⟨w.heap.size+1+1,2,none⟩=false:=fO)
 revert Tq;revert Tn;revert Tm;revert Tj;revert Ti;revert Tf
 exact zq.1):p:=k ⟨h⟩
theorem aIy(h:q)(k:eG q→p:=by
 intro zq
 have Q7:b<w2.heap.size:=bQ
 have z3:w.heap.size<w2.heap.size:=bQ
 have z4:w.heap.size+1<w2.heap.size:=bQ
 have HI2:=bW (HI.out.later hB2 YB)
 have HB2:=bW ((HWd.out.mono (Nat.le_of_lt zb)).trans (hB2.mono bQ))
 revert HB2;revert HI2;revert z4;revert z3;revert Q7
 exact zq.1):p:=k ⟨h⟩
theorem Q8(h:p:=by
 obtain⟨p,hp⟩:=hwq
 rw[hp];exact below_regrown _ _ _):p:=h
theorem awL(h:q)(k:eG q→p:=by
 intro zq
 (have rQ:w1.cell? ⟨w.heap.size,0,none⟩=some (aU (told 0)):=fH;have uM:w1.frozen? ⟨w.heap.size,0,none⟩=false:=fO;have uN:w1.cell? ⟨w.heap.size,1,none⟩=some (aU (told 1)):=fH;have uO:w1.frozen? ⟨w.heap.size,1,none⟩=false:=fO;have yU:w1.cell? ⟨w.heap.size,2,none⟩=some (aU (told 2)):=fH;have yX:w1.frozen? ⟨w.heap.size,2,none⟩=false:=fO;have ale:w1.cell? ⟨w.heap.size,3,none⟩=some (aU (told 3)):=fH;have alf:w1.frozen? ⟨w.heap.size,3,none⟩=false:=fO;have alh:w1.cell? ⟨w.heap.size,4,none⟩=some (aU (told 4)):=fH;have ali:w1.frozen? ⟨w.heap.size,4,none⟩=false:=fO;have alj:w1.cell? ⟨w.heap.size,5,none⟩=some (aU (told 5)):=fH;have alm:w1.frozen? ⟨w.heap.size,5,none⟩=false:=fO;have alr:w1.cell? ⟨w.heap.size,6,none⟩=some (aU (told 6)):=fH;have als:w1.frozen? ⟨w.heap.size,6,none⟩=false:=fO;have alu:w1.cell? ⟨w.heap.size,7,none⟩=some (aU (told 7)):=fH;have alv:w1.frozen? ⟨w.heap.size,7,none⟩=false:=fO)
 (have zX:w1.cell? ⟨w.heap.size+1,0,none⟩=some (aU (cells 0)):=fH;have zZ:w1.frozen? ⟨w.heap.size+1,0,none⟩=false:=fO;have Af:w1.cell? ⟨w.heap.size+1,1,none⟩=some (aU (cells 1)):=fH;have Ah:w1.frozen? ⟨w.heap.size+1,1,none⟩=false:=fO;have Ai:w1.cell? ⟨w.heap.size+1,2,none⟩=some (aU (cells 2)):=fH;have Aj:w1.frozen? ⟨w.heap.size+1,2,none⟩=false:=fO;have alx:w1.cell? ⟨w.heap.size+1,3,none⟩=some (aU (cells 3)):=fH;have aly:w1.frozen? ⟨w.heap.size+1,3,none⟩=false:=fO;have alz:w1.cell? ⟨w.heap.size+1,4,none⟩=some (aU (cells 4)):=fH;have alA:w1.frozen? ⟨w.heap.size+1,4,none⟩=false:=fO;have alB:w1.cell? ⟨w.heap.size+1,5,none⟩=some (aU (cells 5)):=fH;have alC:w1.frozen? ⟨w.heap.size+1,5,none⟩=false:=fO;have alD:w1.cell? ⟨w.heap.size+1,6,none⟩=some (aU (cells 6)):=fH;have alE:w1.frozen? ⟨w.heap.size+1,6,none⟩=false:=fO;have alF:w1.cell? ⟨w.heap.size+1,7,none⟩=some (aU (cells 7)):=fH;have alG:w1.frozen? ⟨w.heap.size+1,7,none⟩=false:=fO;have alH:w1.cell? ⟨w.heap.size+1,8,none⟩=some (aU (cells 8)):=fH;have alI:w1.frozen? ⟨w.heap.size+1,8,none⟩=false:=fO;have alJ:w1.cell? ⟨w.heap.size+1,9,none⟩=some (aU (cells 9)):=fH;have alK:w1.frozen? ⟨w.heap.size+1,9,none⟩=false:=fO;have alL:w1.cell? ⟨w.heap.size+1,10,none⟩=some (aU (cells 10)):=fH;have alM:w1.frozen? ⟨w.heap.size+1,10,none⟩=false:=fO;have alN:w1.cell? ⟨w.heap.size+1,11,none⟩=some (aU (cells 11)):=fH;have alO:w1.frozen? ⟨w.heap.size+1,11,none⟩=false:=fO;have alP:w1.cell? ⟨w.heap.size+1,12,none⟩=some (aU (cells 12)):=fH;have alS:w1.frozen? ⟨w.heap.size+1,12,none⟩=false:=fO;have alV:w1.cell? ⟨w.heap.size+1,13,none⟩=some (aU (cells 13)):=fH;have alW:w1.frozen? ⟨w.heap.size+1,13,none⟩=false:=fO;have alX:w1.cell? ⟨w.heap.size+1,14,none⟩=some (aU (cells 14)):=fH;have al0:w1.frozen? ⟨w.heap.size+1,14,none⟩=false:=fO;have al1:w1.cell? ⟨w.heap.size+1,15,none⟩=some (aU (cells 15)):=fH;have al2:w1.frozen? ⟨w.heap.size+1,15,none⟩=false:=fO)
 revert al2;revert al1;revert al0;revert alX;revert alW;revert alV;revert alS;revert alP;revert alO;revert alN;revert alM;revert alL;revert alK;revert alJ;revert alI;revert alH;revert alG;revert alF;revert alE;revert alD;revert alC;revert alB;revert alA;revert alz;revert aly;revert alx;revert Aj;revert Ai;revert Ah;revert Af;revert zZ;revert zX;revert alv;revert alu;revert als;revert alr;revert alm;revert alj;revert ali;revert alh;revert alf;revert ale;revert yX;revert yU;revert uO;revert uN;revert uM;revert rQ
 exact zq.1):p:=k ⟨h⟩
theorem ajE(h:p:=by repeat' (first|with_reducible (first|exact(But.of HW0.out)|exact But.refl _ _|refine But.drew ?_|refine But.drewN ?_ _|refine But.alloc ?_ _|refine But.setCell ?_ ?_ _)|(exact .inl rfl)|(simp;done)|(simp;omega)|omega)):p:=h
theorem az0(h:p:=by have:=HOW.out.lt;cases hv:out.ownBlock with|none=>exact .inl rfl|some g=>(right;intro e;have:=(this g hv).1;injection e;omega)):p:=h
theorem amc(h:q)(k:eG q→p:=by
 intro zq
 have AV:=bW (Dx.out.but BU bQ bQ axt)
 have aaw:=bW (BU.img YS.out bQ bQ)
 have aax:=bW (BU.img YT.out bQ bQ)
 have NR:=bW (BU.img NY.out bQ bQ)
 have Ua:=bW (BU.img N7.out bQ bQ)
 have aay:=bW (BU.img YU.out bQ bQ)
 have aaz:=bW (BU.img YV.out bQ bQ)
 revert aaz;revert aay;revert Ua;revert NR;revert aax;revert aaw;revert AV
 exact zq.1):p:=k ⟨h⟩
theorem dY(h:p:=by simp):p:=h
theorem apN(h:q)(k:eG q→p:=by
 intro zq
 have c0:=(hI.cell 4 bQ).trans (congrArg some ((Ih (bQ:1<11) (bQ:0<3) bQ).trans (aeT _)))
 have c1:=(hI.cell 5 bQ).trans (congrArg some ((Ih (bQ:1<11) (bQ:1<3) bQ).trans (ajF _)))
 have c2:=(hI.cell 6 bQ).trans (congrArg some ((Ih (bQ:1<11) (bQ:2<3) bQ).trans (ajH _)))
 rw[hx]at c0 c1 c2
 revert c2;revert c1;revert c0
 exact zq.1):p:=k ⟨h⟩
theorem am6(h:q)(k:eG q→p:=by
 intro zq
 have d0:=sJ.out.cell (d*3) bQ;have d1':=sJ.out.cell (d*3+1) bQ;have d2:=sJ.out.cell (d*3+2) bQ;have g0:=sJ.out.free (d*3) bQ;have g1':=sJ.out.free (d*3+1) bQ;have g2':=sJ.out.free (d*3+2) bQ
 revert g2';revert g1';revert g0;revert d2;revert d1';revert d0
 exact zq.1):p:=k ⟨h⟩
theorem atQ(h:q)(k:eG q→p:=by
 intro zq
 refine(C.out _).mono ?_
 rw[HK.out]
 refine Uy ?_;intro w1 hc1 hf1 hz1 HW1 z10 z11
 (have rQ:w1.cell? ⟨w.heap.size,0,none⟩=some (aU 3):=fH;have uM:w1.frozen? ⟨w.heap.size,0,none⟩=false:=fO;have uN:w1.cell? ⟨w.heap.size,1,none⟩=some (aU l):=fH;have uO:w1.frozen? ⟨w.heap.size,1,none⟩=false:=fO;have yU:w1.cell? ⟨w.heap.size,2,none⟩=some (aU h):=fH;have yX:w1.frozen? ⟨w.heap.size,2,none⟩=false:=fO)
 revert yX;revert yU;revert uO;revert uN;revert uM;revert rQ;revert z11;revert z10;revert HW1;revert hz1;revert hf1;revert hc1;revert w1
 exact zq.1):p:=k ⟨h⟩
theorem atS(h:q)(k:eG q→p:=by
 intro zq
 refine fU ?_;intro HW0
 have hlt:=hI.lt bQ
 have c0:=(hI.cell 3 bQ).trans (congrArg some ((vX (r:=1) bQ (bQ:0<3) bQ).trans (ar6 _)))
 have c1:=(hI.cell 4 bQ).trans (congrArg some ((vX (r:=1) bQ (bQ:1<3) bQ).trans (ar7 _)))
 have c2:=(hI.cell 5 bQ).trans (congrArg some ((vX (r:=1) bQ (bQ:2<3) bQ).trans (ar8 _)))
 rw[VO (bQ:1<11),hx]at c0 c1 c2
 have f0:=hI.cell 0 bQ;have f1:=hI.cell 1 bQ;have f2:=hI.cell 2 bQ
 have g0:=hI.free 0 bQ;have g1:=hI.free 1 bQ;have g2:=hI.free 2 bQ
 revert g2;revert g1;revert g0;revert f2;revert f1;revert f0;revert c2;revert c1;revert c0;revert hlt;revert HW0
 exact zq.1):p:=k ⟨h⟩
theorem ati(h:q)(k:eG q→p:=by
 intro zq
 generalize hW:World.alloc w _=w1
 have hb1:Below w.heap.size w w1:=hW▸((Below.refl w.heap.size w).alloc (Nat.le_refl _) _)
 have LQ:P.Img w1 w.heap.size 2 (fun _=>aU 0):=hW▸Img.aas (heap_alloc_new w _)
 revert LQ;revert hb1;revert hW;revert w1
 exact zq.1):p:=k ⟨h⟩
theorem ao4(h:q)(k:eG q→p:=by
 intro zq
 have CO:=bW (show ∀ wd dr os,Calls Tryz.prog 73 #[aU 0] (Go.Sort.grow (redrawn wd dr) os) fun e w'=>e=.returned (.agg #[aU 0,aU 0])∧∃ p:Regrown,w'=Go.Sort.grow (redrawn wd p.d) p.os from fun wd dr os=>Calls.regrown_of (VW 0 _))
 have q1':=cell_regrown f1
 refine YC 5 dF dF ?_
 revert q1';revert CO
 exact zq.1):p:=k ⟨h⟩
theorem apO(h:p:=by repeat' (first|with_reducible exact But.refl _ _|with_reducible refine But.drew ?_|with_reducible refine But.alloc ?_ _|with_reducible refine But.setCell ?_ ?_ _|exact .inl rfl)):p:=h
theorem ac7(h:q)(k:eG q→p:=by
 intro zq
 generalize hW:World.alloc w _=w1
 have CP:=bW (show gJ w0 D R Cs d d w1 from hW▸H0.out.later ((Below.refl _ _).alloc (Nat.le_refl _) _))
 revert CP;revert hW;revert w1
 exact zq.1):p:=k ⟨h⟩
theorem ao7(h:q)(k:eG q→p:=by
 intro zq
 have C9:=Cj.img agS.out bQ bQ WI
 have r0:w9.cell? ⟨w.heap.size+1+1,0,none⟩=some (aU 0):=C9.cell 0 bQ
 have r1:w9.cell? ⟨w.heap.size+1+1,1,none⟩=some (aU 0):=C9.cell 1 bQ
 have t0:=C9.free 0 bQ
 have t1:=C9.free 1 bQ
 have Y0:w.heap.size+1+1<w9.heap.size:=C9.lt bQ
 revert Y0;revert t1;revert t0;revert r1;revert r0;revert C9
 exact zq.1):p:=k ⟨h⟩
theorem ao2(h:q)(k:eG q→p:=by
 intro zq
 have m11:¬sr*3+1=d*3+1:=bQ
 have m12:¬sr*3+1=d*3+2:=bQ
 have m21:¬sr*3+2=d*3+1:=bQ
 have m22:¬sr*3+2=d*3+2:=bQ
 have n11:¬d*3+1=sr*3+1:=bQ
 have n12:¬d*3+1=sr*3+2:=bQ
 have n21:¬d*3+2=sr*3+1:=bQ
 have n22:¬d*3+2=sr*3+2:=bQ
 revert n22;revert n21;revert n12;revert n11;revert m22;revert m21;revert m12;revert m11
 exact zq.1):p:=k ⟨h⟩
theorem Rw(h:p:=by first|rfl|assumption|(simp[go_sem,KZ,Lc, *];done)|(simp;omega)|omega):p:=h
theorem ax6(h:q)(k:eG q→p:=by
 intro zq
 have htl:t.block<w.heap.size:=block_lt_of_cell ht0
 have el:=aGu ⟨w.heap.size,0,none⟩ t (((w.alloc (.cells #[.pointer (some t)] 236)).alloc (.cells #[.pointer (some ⟨14,236,none⟩),.pointer (some ⟨w.heap.size,0,none⟩),.int .u64 150] 271)).alloc (.cells #[.pointer (some ⟨14,236,none⟩),.pointer (some ⟨w.heap.size,0,none⟩),.int .u64 150] 271)) (by rw[World.cell?_alloc_lt _ _ ⟨w.heap.size,0,none⟩ eU];simp)
 have st:=aGy t ⟨w.heap.size+1+1+1,0,none⟩ n old ((((w.alloc (.cells #[.pointer (some t)] 236)).alloc (.cells #[.pointer (some ⟨14,236,none⟩),.pointer (some ⟨w.heap.size,0,none⟩),.int .u64 150] 271)).alloc (.cells #[.pointer (some ⟨14,236,none⟩),.pointer (some ⟨w.heap.size,0,none⟩),.int .u64 150] 271)).alloc (.cells #[aU n] 30))
  (by rw[World.cell?_alloc_at _ _ _ _ dY];rfl)
  (by rw[World.cell?_alloc_lt _ _ t eU,World.cell?_alloc_lt _ _ t eU,World.cell?_alloc_lt _ _ t eU,World.cell?_alloc_lt _ _ t htl];exact ht0)
  (by rw[World.frozen?_alloc_old _ _ t eU,World.frozen?_alloc_old _ _ t eU,World.frozen?_alloc_old _ _ t eU,World.frozen?_alloc_old _ _ t (Nat.ne_of_lt htl)];exact hf0)
 revert st;revert el;revert htl
 exact zq.1):p:=k ⟨h⟩
theorem qY(h:p:=by rw[←hW];simp[go_sem]):p:=h
theorem axR(h:p:=by
 refine⟨_,cap,by rw[List.length_append];rfl,by rw[List.length_append];exact hr,hmax,.inr ⟨g,o,_,rfl,setRow_heap W g _ _ _ _ hg,?_,?_⟩⟩
 ·rw[hz1,Gq]
  simp only[List.size_toArray,List.length_append,List.length_take,List.length_drop,Array.length_toList,Gq]
  omega
 ·rw[hz1,Gq]
  show List.take ((q++[told]).length*8) (List.drop (o*8) (List.take (o*8+q.length*8) cur.toList++t8 told++List.drop (o*8+q.length*8+8) cur.toList))=_
  have hcl:cur.toList.length=cur.size:=Array.length_toList
  rw[List.append_assoc,List.drop_append_of_le_length atT,List.drop_take,show o*8+q.length*8-o*8=q.length*8 by omega,hxs,←List.append_assoc,List.take_append_of_le_length,List.take_of_length_le,List.flatMap_append]
  ·simp
  ·rw[List.length_append,List.length_append,Gq,aaG Gq];simp;omega
  ·rw[List.length_append,List.length_append,Gq,aaG Gq];simp;omega):p:=h
theorem Ot(h:p:=by simp[results,Tryz.results154,go_sem,hc1,z10,z11,z12]):p:=h
theorem Zz(h:p:=by rw[hc2 _ _ fD];first|done|(simp[go_sem,zG,zH,zI,zJ,zK];done)|assumption):p:=h
theorem acX(h:p:=by rw[hc _ _ atO];simp[go_sem, *]):p:=h
theorem az1(h:q)(k:eG q→p:=by
 intro zq
 generalize hW:World.setCell (World.setCell w6 _ _) _ _=w7
 have AU:P.Img w7 w5.heap.size 81 (gQ fC (s.narrowed ⟨c,d,sr,false,o,nn⟩ ⟨pl,ph⟩ ⟨ql,qh⟩)):=by
  rw[←hW,show(s.narrowed ⟨c,d,sr,false,o,nn⟩ ⟨pl,ph⟩ ⟨ql,qh⟩)={ s with regs:=upd s.regs d ⟨(s.regs d).kind,⟨pl,ph⟩⟩}from by unfold VS.narrowed;rw[dw dY];rfl]
  have K:=(((sJ.out).set (j:=d*3+1) bQ (fC ⟨((s).regs d).kind,⟨pl,ph⟩⟩ 1)).set (j:=d*3+2) bQ (fC ⟨((s).regs d).kind,⟨pl,ph⟩⟩ 2)).congr (agx (s:=s) dN ⟨pl,ph⟩ (fun _=>rfl))
  exact K
 have BU:But w5.heap.size w6 w7:=hW▸((((But.refl w5.heap.size w6).setCell (.inl rfl) _)).setCell (.inl rfl) _)
 have zL:=bW (Ba.out.but BU HAU.out)
 have Lj:=bW (BU.img uD.out bQ XW)
 have qx:=bW (aeS BG.out BU bQ)
 have Ld:=bW AU
 have uG:Hid (kG (s.narrowed ⟨c,d,sr,false,o,nn⟩ ⟨pl,ph⟩ ⟨ql,qh⟩)):=HS.out.narrowed _ Lu.out.1 Lu.out.2
 revert uG;revert Ld;revert qx;revert Lj;revert zL;revert BU;revert AU;revert hW;revert w7
 exact zq.1):p:=k ⟨h⟩
theorem aIz(h:q)(k:eG q→p:=by
 intro zq
 have p2:w2.cell? ⟨wd.heap.size,2,none⟩=some (aU cell):=(hb2.cell (p:=⟨wd.heap.size,2,none⟩) dY).trans oZ
 revert p2
 exact zq.1):p:=k ⟨h⟩
theorem ajI(h:p:=by repeat' (first|with_reducible (first|exact HWQ.out|apply bR|apply bD|apply bN|apply bA|apply bS)|(simp;done)|(simp;omega)|omega)):p:=h
theorem az2(h:q)(k:eG q→p:=by
 intro zq
 generalize hW:World.alloc (World.alloc (World.alloc w _) _) _=w1
 have hb1:Below w.heap.size w w1:=hW▸((((Below.refl w.heap.size w).alloc (Nat.le_refl _) _).alloc dY _).alloc eU _)
 have hs1:w1.heap.size=w.heap.size+1+1+1:=OC
 have IT:P.Img w1 w.heap.size 8 (fun j=>([aU (told 0),aU (told 1),aU (told 2),aU (told 3),aU (told 4),aU (told 5),aU (told 6),aU (told 7)]:List Value).getD j undef):=hW▸Img.alloc (Img.alloc (Img.mk' (heap_alloc_new w _) dF) _) _
 have IR:P.Img w1 (w.heap.size+1) 4 (fun j=>([aU 0,aU 0,.slice none 0 0,aU 0]:List Value).getD j undef):=hW▸Img.alloc (Img.mk' al8 dF) _
 have IS:P.Img w1 (w.heap.size+1+1) 4 (fun j=>([aU 0,aU 0,.slice none 0 0,aU 0]:List Value).getD j undef):=hW▸Img.mk' aw9 dF
 revert IS;revert IR;revert IT;revert hs1;revert hb1;revert hW;revert w1
 exact zq.1):p:=k ⟨h⟩
theorem az3(h:q)(k:eG q→p:=by
 intro zq
 generalize hW:World.setCell (World.setCell (World.setCell wq _ _) _ _) _ _=w5
 have IU5:P.Img w5 w3.heap.size 81 (gQ fC (s.gu d (.num (eH 0)))):=by
  rw[←hW]
  have K:=(((qN.out.set (j:=d*3) bQ (fC (.num (eH 0)) 0)).set (j:=d*3+1) bQ (fC (.num (eH 0)) 1)).set (j:=d*3+2) bQ (fC (.num (eH 0)) 2)).congr (Oy dN (.num (eH 0)))
  exact K
 have B5:Below w3.heap.size w4 w5:=hW▸(((qA.out.mono z4).setCell dY _).setCell dY _).setCell dY _
 have ac8:=bW IU5
 have hC5:Cells w5 a S n:=(NC.out.later qA.out).but (hW▸(((But.refl w3.heap.size wq).setCell (.inl rfl) _).setCell (.inl rfl) _).setCell (.inl rfl) _) HAU.out
 have hI5:P.Img w5 b 5 (Ew (.slice (some a) n cap) k):=HI4.out.later B5 bQ
 have g1:w5.cell? ⟨w.heap.size+1,1,none⟩=some (aU d):=(B5.cell (p:=⟨w.heap.size+1,1,none⟩) y1).trans f1
 have KC:=bW hC5
 have EM:=bW hI5
 have ajJ:=bW (LD.out.trans (B5.mono bQ))
 have zu5:=IU5.lt bQ
 have y15:w.heap.size+1<w5.heap.size:=bQ
 revert y15;revert zu5;revert ajJ;revert EM;revert KC;revert g1;revert hI5;revert hC5;revert ac8;revert B5;revert IU5;revert hW;revert w5
 exact zq.1):p:=k ⟨h⟩
theorem XY(h:p:=by first|exact Nat.le_refl _|omega|(simp;done)|(simp;omega)):p:=h
theorem atU(h:q)(k:eG q→p:=by
 intro zq
 generalize hW:World.setCell (World.setCell (World.setCell wo _ _) _ _) _ _=wy
 have KX:P.Img wy w.heap.size 81 (gQ fV { s with regs:=upd s.regs 0 (⟨5,eH 0⟩)}):=by
  rw[←hW]
  have K:=acA Qv.out (bQ:0<11) (⟨5,eH 0⟩)
  dsimp only at K
  rw[asv]at K
  exact K
 have BX:But w.heap.size w3 wy:=hW▸((KA.out.setCell (.inl rfl) _).setCell (.inl rfl) _).setCell (.inl rfl) _
 clear hW
 have vU:=bW KX
 have sS:=bW BX
 revert sS;revert vU;revert BX;revert KX;revert wy
 exact zq.1):p:=k ⟨h⟩
theorem atV(h:q)(k:eG q→p:=by
 intro zq
 generalize hW:World.setCell (World.setCell (World.setCell wo _ _) _ _) _ _=wy
 have KX:P.Img wy w.heap.size 81 (gQ fV { s with regs:=upd s.regs 0 (.num (eH 0))}):=by
  rw[←hW]
  have K:=acA Qv.out (bQ:0<11) (.num (eH 0))
  dsimp only at K
  rw[asv]at K
  exact K
 have BX:But w.heap.size w3 wy:=hW▸((KA.out.setCell (.inl rfl) _).setCell (.inl rfl) _).setCell (.inl rfl) _
 clear hW
 have vU:=bW KX
 have sS:=bW BX
 revert sS;revert vU;revert BX;revert KX;revert wy
 exact zq.1):p:=k ⟨h⟩
theorem ao1(h:q)(k:eG q→p:=by
 intro zq
 obtain⟨u1,d1'⟩:∃ u,w6.cell? ⟨w5.heap.size,d*3+1,none⟩=some u:=⟨_,HU.out.cell (d*3+1) bQ⟩
 obtain⟨u2,d2⟩:∃ u,w6.cell? ⟨w5.heap.size,d*3+2,none⟩=some u:=⟨_,HU.out.cell (d*3+2) bQ⟩
 have g1':=HU.out.free (d*3+1) bQ;have g2':=HU.out.free (d*3+2) bQ
 revert g2';revert g1';revert d2;revert u2;revert d1';revert u1
 exact zq.1):p:=k ⟨h⟩
theorem aIA(h:p:=by
 have e1:(s.narrowed ⟨c,d,d,true,o,nn⟩ ⟨pl,ph⟩ ⟨ql,qh⟩)=s:=by
  unfold VS.narrowed
  rw[dB rfl,dB rfl]
 rw[←hW,e1]
 refine(((az4.out.set (j:=d*3) bQ (aU 1)).set (j:=d*3+1) bQ (aU xl)).set (j:=d*3+2) bQ (aU xh)).congr fun jj hjj=>?_
 have hx0:=HX.out
 by_cases q2:jj=d*3+2
 ·rw[q2,upd_same,Uw dN (bQ:2<3) rfl,hx0];rfl
 by_cases q1:jj=d*3+1
 ·rw[q1,fB bQ,upd_same,Uw dN (bQ:1<3) rfl,hx0];rfl
 by_cases q0:jj=d*3
 ·rw[q0,fB bQ,fB bQ,upd_same,Uw dN (bQ:0<3) bQ,hx0];rfl
 rw[fB q2,fB q1,fB q0,fB q2,fB q1,fB q2,fB q1]):p:=h
theorem aaN(h:p:=by rw[hc2 _ _ fD];first|(simp[go_sem];done)|assumption|(simp[go_sem, *];done)):p:=h
theorem aaO(h:p:=by rw[hf2 _ _ fD];first|(simp[go_sem];done)|assumption|(simp[go_sem, *];done)):p:=h
theorem apP(h:p:=by repeat' (first|with_reducible exact Below.refl _ _|with_reducible refine Below.drew ?_|with_reducible refine Below.alloc ?_ ?_ _|(simp;done)|(simp;omega)|omega)):p:=h
theorem ajK(h:q)(k:eG q→p:=by
 intro zq
 refine fU ?_;intro HW0
 have ta:=mV (show letter ka≠0 from fun e=>ha0 ((Gp DZ).1 e))
 have tb:=mV (show letter kb≠0 from fun e=>hb0 ((Gp okb).1 e))
 revert tb;revert ta;revert HW0
 exact zq.1):p:=k ⟨h⟩
theorem oZ(h:p:=by simp[go_sem]):p:=h
theorem ajL(h:p:=by exact afm.pair HST.out rfl pn HS.out ((((But.refl (w3.heap.size+1) w4).setCell (.inl rfl) _).setCell (.inl rfl) _).img EL.out bQ bQ)):p:=h
theorem amM(h:p:=by(repeat' (first|with_reducible exact LD.out|with_reducible refine Below.setCell ?_ ?_ _|with_reducible refine Below.alloc ?_ ?_ _|(simp;done)|(simp;omega)|omega))):p:=h
theorem ald(h:p:=by repeat' (first|with_reducible exact HW0.out|with_reducible refine Below.alloc ?_ ?_ _|(simp;done)|(simp;omega)|omega)):p:=h
theorem apC(h:p:=by repeat' (first|with_reducible exact HB2.out|with_reducible refine Below.drew ?_|with_reducible refine Below.setCell ?_ ?_ _|with_reducible refine Below.alloc ?_ ?_ _|(simp;done)|(simp;omega)|omega)):p:=h
theorem az5(h:q)(k:eG q→p:=by
 intro zq
 generalize hW:World.setCell (World.setCell (World.setCell wz _ _) _ _) _ _=w7
 have AU:P.Img w7 w3.heap.size 81 (gQ fC (s.gu d ⟨4,eH 0⟩)):=by
  rw[←hW]
  have K:=(((Ux.out.set (j:=d*3) bQ (fC ⟨4,eH 0⟩ 0)).set (j:=d*3+1) bQ (fC ⟨4,eH 0⟩ 1)).set (j:=d*3+2) bQ (fC ⟨4,eH 0⟩ 2)).congr (Oy dN ⟨4,eH 0⟩)
  rw[show(s.gu d ⟨4,eH 0⟩)={ (s.gu d (.num (eH 0)))with regs:=upd (s.gu d (.num (eH 0))).regs d ⟨4,eH 0⟩}from by unfold VS.gu;simp only[Int.toNat_natCast,atW]]
  exact K
 have BU:But w3.heap.size wz w7:=hW▸(((But.refl w3.heap.size wz).setCell (.inl rfl) _).setCell (.inl rfl) _).setCell (.inl rfl) _
 have hC7:Cells w7 a S n:=(Ba.out.later UN.out).but BU HAU.out
 revert hC7;revert BU;revert AU;revert hW;revert w7
 exact zq.1):p:=k ⟨h⟩
theorem apQ(h:p:=by repeat' (first|with_reducible exact Below.refl _ _|with_reducible refine Below.drew ?_|with_reducible refine Below.alloc ?_ ?_ _|with_reducible refine Below.setCell ?_ ?_ _|(simp;done)|(simp;omega))):p:=h
theorem am7(h:p:=by repeat' (first|with_reducible exact Below.refl _ _|with_reducible refine Below.drew ?_|with_reducible refine Below.alloc ?_ ?_ _|(simp;done)|omega)):p:=h
theorem atX(h:q)(k:eG q→p:=by
 intro zq
 have CO:=bW (show ∀ wd dr os,Calls Tryz.prog 76 #[aU 0] (Go.Sort.grow (redrawn wd dr) os) fun e w'=>e=.returned (.agg #[aU 0,aU 0])∧∃ p:Regrown,w'=Go.Sort.grow (redrawn wd p.d) p.os from fun wd dr os=>Calls.regrown_of (acW 0 _))
 revert CO
 exact zq.1):p:=k ⟨h⟩
theorem ajO(h:p:=by exact Dv.out.but (c:=w3.heap.size+1) (((But.refl (w3.heap.size+1) w4).setCell (.inl rfl) _).setCell (.inl rfl) _) bQ bQ HNA.out):p:=h
theorem az6(h:p:=by
 have e:dV c ⟨al,ah⟩ ⟨bl,bh⟩=⟨(-9223372036854775808),9223372036854775807⟩:=by unfold dV;(repeat rw[dw bQ]);rfl
 rw[e]
 clear e
 have t1:(c==1)=false:=lW
 have t2:(c==2)=false:=lW
 have t3:(c==3)=false:=lW
 have t4:(c==4)=false:=lW
 have t5:(c==5)=false:=lW
 have t6:(c==6)=false:=lW
 have t7:(c==7)=false:=lW
 have t8:(c==8)=false:=lW
 have t9:(c==9)=false:=lW
 have t10:(c==10)=false:=lW
 have t11:(c==11)=false:=lW
 have t12:(c==12)=false:=lW
 have t13:(c==13)=false:=lW
 clear hc
 exact ac9):p:=h
theorem axL(h:q)(k:eG q→p:=by
 intro zq
 refine NoPanic.normal ?_
 generalize hW:World.setCell (World.setCell (World.setCell wz _ _) _ _) _ _=w6
 have I5:P.Img w6 w.heap.size 81 (gQ fV (s.gu d ⟨4,eH 0⟩)):=by
  rw[←hW]
  have K:=(((qN.out.set (j:=d*3) bQ (fV ⟨4,eH 0⟩ 0)).set (j:=d*3+1) bQ (fV ⟨4,eH 0⟩ 1)).set (j:=d*3+2) bQ (fV ⟨4,eH 0⟩ 2)).congr (Oy dN ⟨4,eH 0⟩)
  rw[show(s.gu d ⟨4,eH 0⟩)={ (s.gu d (.num (eH 0)))with regs:=upd (s.gu d (.num (eH 0))).regs d ⟨4,eH 0⟩}from by unfold VS.gu;simp only[Int.toNat_natCast,asv]]
  exact K
 have B5:But w.heap.size wz w6:=hW▸(((But.refl w.heap.size wz).setCell (.inl rfl) _).setCell (.inl rfl) _).setCell (.inl rfl) _
 revert B5;revert I5;revert hW;revert w6
 exact zq.1):p:=k ⟨h⟩
theorem am8(h:p:=by simp[results,Tryz.results146,go_sem,y2a,afy,afE,y2b,afJ,afM,y2r,afN,afP,y2s,afQ,afR,y2n,am9,ana,y2x,anb,anc]):p:=h
theorem anj(h:p:=by repeat' (first|with_reducible exact(HWd.out.mono (Nat.le_of_lt zb))|with_reducible refine Below.drew ?_|with_reducible refine Below.drewN' ?_ _)):p:=h
theorem axw(h:q)(k:eG q→p:=by
 intro zq
 generalize hW:World.setCell (World.setCell w6 _ _) _ _=w7
 have U7:P.Img w7 w5.heap.size 81 (gQ fV (s.narrowed ⟨c,d,sr,false,o,nn⟩ ⟨pl,ph⟩ ⟨ql,qh⟩)):=by
  rw[←hW,show(s.narrowed ⟨c,d,sr,false,o,nn⟩ ⟨pl,ph⟩ ⟨ql,qh⟩)={ s with regs:=upd s.regs d ⟨(s.regs d).kind,⟨pl,ph⟩⟩}from by unfold VS.narrowed;rw[dw dY];rfl]
  have K:=(((HU.out).set (j:=d*3+1) bQ (fV ⟨((s).regs d).kind,⟨pl,ph⟩⟩ 1)).set (j:=d*3+2) bQ (fV ⟨((s).regs d).kind,⟨pl,ph⟩⟩ 2)).congr (agx (s:=s) dN ⟨pl,ph⟩ (fun _=>rfl))
  exact K
 have BU:But w5.heap.size w6 w7:=hW▸((But.refl w5.heap.size w6).setCell (.inl rfl) _).setCell (.inl rfl) _
 revert BU;revert U7;revert hW;revert w7
 exact zq.1):p:=k ⟨h⟩
theorem aIB(h:q)(k:eG q→p:=by
 intro zq
 have BX:But w.heap.size w3 wx:=hW▸(((But.refl w.heap.size w3).setCell (.inl rfl) _).setCell (.inl rfl) _).setCell (.inl rfl) _
 revert BX
 exact zq.1):p:=k ⟨h⟩
theorem aya(h:p:=by
 have hj':j=0∨j=1∨j=2∨j=3∨j=4∨j=5∨j=6∨j=7∨j=8∨j=9∨j=10∨j=11∨j=12∨j=13∨j=14∨j=15:=bQ
 rcases hj' with rfl|rfl|rfl|rfl|rfl|rfl|rfl|rfl|rfl|rfl|rfl|rfl|rfl|rfl|rfl|rfl<;>rfl):p:=h
theorem apR(h:q)(k:eG q→p:=by
 intro zq
 refine fU ?_;intro HW0
 have f13:(c==13)=false:=lW
 have f14:(c==14)=false:=lW
 have f25:(c==25)=false:=lW
 have f26:(c==26)=false:=lW
 have f27:(c==27)=false:=lW
 have f1:¬c<1:=bQ
 have f28:¬28<c:=bQ
 have f1b:1≤c:=bQ
 have ank:c≤28:=bQ
 revert ank;revert f1b;revert f28;revert f1;revert f27;revert f26;revert f25;revert f14;revert f13;revert HW0
 exact zq.1):p:=k ⟨h⟩
theorem apS(h:p:=by have:=HO.out.lt;cases hv:(Value.slice og M.out.length jM).ownBlock with|none=>exact .inl rfl|some g=>(right;intro e;have:=(this g hv).1;injection e;omega)):p:=h
theorem xQ(h:p:=by simp[go_sem,hc1]):p:=h
theorem xW(h:p:=by simp[go_sem,hf1]):p:=h
theorem atc(h:q)(k:eG q→p:=by
 intro zq
 have Gz:w2.frozen? ⟨w1.heap.size,1,none⟩=false:=lY
 have b0:w2.cell? ⟨w.heap.size+1+1,0,none⟩=some (aU 0):=acX
 have GH:w2.frozen? ⟨w.heap.size+1+1,0,none⟩=false:=lY
 have b1:w2.cell? ⟨w.heap.size+1+1,1,none⟩=some (aU 0):=acX
 have GI:w2.frozen? ⟨w.heap.size+1+1,1,none⟩=false:=lY
 revert GI;revert b1;revert GH;revert b0;revert Gz
 exact zq.1):p:=k ⟨h⟩
theorem axz(h:q)(k:eG q→p:=by
 intro zq
 have Ox:∀ c',w.heap.size≤c'→c'<w3.heap.size→v'.ownBlock≠some c':=fun c' h1 h2=>HNR.out c' h1 h2
 have VN:=bW (show ∀ c',w.heap.size≤c'→c'<w3.heap.size→v8.ownBlock≠some c' from fun c' h1 h2=>row_ne Iw.row (fun g hg=>(AV.out.look.row hg).2) bQ (Ox c' h1 h2))
 have Ll:=bW (Iw.img NR.out bQ bQ (Ox _ bQ bQ))
 have r0:w8.cell? ⟨w.heap.size+1+1,0,none⟩=some (aU 0):=Ll.out.cell 0 bQ
 have r1:w8.cell? ⟨w.heap.size+1+1,1,none⟩=some (aU 0):=Ll.out.cell 1 bQ
 have t0:=Ll.out.free 0 bQ
 have t1:=Ll.out.free 1 bQ
 have Hg:=bW (AV.out.trans Iw)
 have z8:w6.heap.size≤w8.heap.size:=Iw.size
 have zF8:w.heap.size+1+1<w8.heap.size:=bQ
 revert zF8;revert z8;revert Hg;revert t1;revert t0;revert r1;revert r0;revert Ll;revert VN;revert Ox
 exact zq.1):p:=k ⟨h⟩
theorem ajR(h:p:=by rw[hc2 _ _ fD];first|done|(simp[go_sem,Uz,zG,zH,zI,zJ,zK];done)|assumption):p:=h
theorem ajT(h:p:=by rw[hc2 _ _ fD];first|done|(simp[go_sem,UA,zG,zH,zI,zJ,zK];done)|assumption):p:=h
theorem ajU(h:p:=by rw[hc2 _ _ fD];first|done|(simp[go_sem,UC,zG,zH,zI,zJ,zK];done)|assumption):p:=h
theorem ajV(h:p:=by rw[hc2 _ _ fD];first|done|(simp[go_sem,UD,zG,zH,zI,zJ,zK];done)|assumption):p:=h
theorem ajW(h:p:=by rw[hc2 _ _ fD];first|done|(simp[go_sem,UE,zG,zH,zI,zJ,zK];done)|assumption):p:=h
theorem ajX(h:p:=by rw[hf2 _ _ fD];first|done|(simp[go_sem,XR,zG,zH,zI,zJ,zK];done)|assumption):p:=h
theorem ajY(h:p:=by rw[hc2 _ _ fD];first|done|(simp[go_sem,UF,zG,zH,zI,zJ,zK];done)|assumption):p:=h
theorem ajZ(h:p:=by rw[hf2 _ _ fD];first|done|(simp[go_sem,XT,zG,zH,zI,zJ,zK];done)|assumption):p:=h
theorem aj0(h:p:=by rw[hc2 _ _ fD];first|done|(simp[go_sem,UG,zG,zH,zI,zJ,zK];done)|assumption):p:=h
theorem aj1(h:p:=by rw[hf2 _ _ fD];first|done|(simp[go_sem,XU,zG,zH,zI,zJ,zK];done)|assumption):p:=h
theorem aj2(h:p:=by rw[hc2 _ _ fD];first|done|(simp[go_sem,UH,zG,zH,zI,zJ,zK];done)|assumption):p:=h
theorem aj3(h:p:=by rw[hf2 _ _ fD];first|done|(simp[go_sem,XV,zG,zH,zI,zJ,zK];done)|assumption):p:=h
theorem ayc(h:p:=by
 refine⟨v',w',hr,⟨?_,fun y hy=>?_⟩,h3⟩
 ·rw[List.length_append,List.flatMap_append]
  simpa using h2
 ·have keep:∀ {u:Value} {n:Nat} {xs:List Value},w.ownsRow B 2 1 u n xs→w'.ownsRow B 2 1 u n xs:=fun hrow=>(dQ.grown h3 (M:=fun b=>v.ownBlock=some b) fun k e=>e).row hrow fun b hb e=>((kD hrow b hb).ne (kD h.row b e) dS) rfl
  rcases List.mem_append.1 hy with hy|hy
  ·exact keep (h.outs y hy)
  ·rw[List.mem_singleton]at hy
   subst hy
   exact keep hx):p:=h
theorem atY(h:q)(k:eG q→p:=by
 intro zq
 refine(ada ⟨3,n,cell⟩ o dY _).mono ?_
 rw[HK.out]
 refine Uy ?_;intro w1 hc1 hf1 hz1 HW1 z10 z11
 (have rQ:w1.cell? ⟨w.heap.size,0,none⟩=some (aU 3):=fH;have uM:w1.frozen? ⟨w.heap.size,0,none⟩=false:=fO;have uN:w1.cell? ⟨w.heap.size,1,none⟩=some (aU n):=fH;have uO:w1.frozen? ⟨w.heap.size,1,none⟩=false:=fO;have yU:w1.cell? ⟨w.heap.size,2,none⟩=some (aU cell):=fH;have yX:w1.frozen? ⟨w.heap.size,2,none⟩=false:=fO)
 revert yX;revert yU;revert uO;revert uN;revert uM;revert rQ;revert z11;revert z10;revert HW1;revert hz1;revert hf1;revert hc1;revert w1
 exact zq.1):p:=k ⟨h⟩
theorem at7(h:p:=by repeat' (first|with_reducible (first|exact(But.of HW1.out)|exact But.refl _ _|refine But.drew ?_|refine But.drewN ?_ _|refine But.alloc ?_ _|refine But.setCell ?_ ?_ _)|(exact .inl rfl)|(simp;done)|(simp;omega)|omega)):p:=h
theorem azU(h:p:=by
 obtain⟨og,cap,hv,h2,h3,h4⟩:=h
 simp only[Value.slice.injEq]at hv
 obtain⟨rfl,-,rfl⟩:=hv
 have hr:r=[]:=List.eq_nil_of_length_eq_zero (by simp only[List.length_cons]at h2;omega)
 subst hr
 refine⟨_,0,rfl,Nat.le_refl _,by unfold maxLen;omega,?_⟩
 rcases h4 with ⟨h4,_⟩|⟨g',o',cur,h4,hg,h5,_⟩
 ·cases h4
 ·simp only[Option.some.injEq,Addr.mk.injEq,and_true]at h4
  obtain⟨rfl,h4⟩:=h4
  exact .inr ⟨g,o,cur,rfl,hg,by omega,by simp⟩):p:=h
theorem aj6(h:p:=by exact(((But.refl (w3.heap.size+1) w4).setCell (.inl rfl) _).setCell (.inl rfl) _).img Ci.out bQ bQ):p:=h
theorem axZ(h:p:=by
 by_cases e1:i=k
 ·subst e1
  rw[upd_same]at ei
  have e2:j≠i:=fun x=>ne x.symm
  rw[fB e2]at ej
  rcases apc b ei with x|x
  ·exact h.Td i j b hi hj ne x ej
  ·have:=((h.queue j hj).typed b ej).lt;omega
 ·rw[fB e1]at ei
  by_cases e2:j=k
  ·subst e2
   rw[upd_same]at ej
   rcases apc b ej with x|x
   ·exact h.Td i j b hi hj ne ei x
   ·have:=((h.queue i hi).typed b ei).lt;omega
  ·rw[fB e2]at ej
   exact h.Td i j b hi hj ne ei ej):p:=h
theorem rM(h:p:=by assumption):p:=h
theorem asF(h:p:=by
 refine⟨v9,rfl,JE.out.but (c:=w.heap.size+1+1) ?_ bQ bQ NR9.out⟩
 exact((But.refl (w.heap.size+1+1) _).setCell (.inl rfl) _).setCell (.inl rfl) _):p:=h
theorem YE(h:q)(k:eG q→p:=by
 intro zq
 refine wpQuiet_nil ?_
 intro wq hwq
 have hbq:Below wd.heap.size wd wq:=by
  exact Q8
 revert hbq;revert hwq;revert wq
 exact zq.1):p:=k ⟨h⟩
theorem apw(h:q)(k:eG q→p:=by
 intro zq
 (rintro e w1 ⟨rfl,hb⟩;obtain⟨hc1,hf1⟩:=jd hb;have hz1:=hb.size;(try simp at hz1);have HW1:=bW (show Below w.heap.size w w1 from Below.trans gI (hb.mono fD));clear hb;have z10:w.heap.size<w1.heap.size:=bQ)
 revert z10;revert HW1;revert hz1;revert hf1;revert hc1;revert w1
 exact zq.1):p:=k ⟨h⟩
theorem aua(h:q)(k:eG q→p:=by
 intro zq
 refine wpQuiet_nil ?_
 intro wq hwq
 have hbq:Below wr.heap.size wr wq:=by
  exact Q8
 clear hwq
 have IQ:=HI1.out.later hbq zb
 have qN:=bW IQ
 have qA:=bW (HB1.out.trans (But.of hbq))
 have d0:=IQ.cell 0 bQ
 have d1:=IQ.cell 1 bQ
 have d2:=IQ.cell 2 bQ
 have s0:=IQ.free 0 bQ
 have s1:=IQ.free 1 bQ
 have s2:=IQ.free 2 bQ
 clear hbq IQ
 revert s2;revert s1;revert s0;revert d2;revert d1;revert d0;revert qA;revert qN;revert wq
 exact zq.1):p:=k ⟨h⟩
theorem az7(h:q)(k:eG q→p:=by
 intro zq
 have g0:w2.cell? ⟨b,q*3,none⟩=some (.int .u8 (kl SV.kind)):=(HI2.out.cell _ bQ).trans (congrArg some ((vX (r:=q) bQ (bQ:0<3) bQ).trans (by rw[HAT.out];rfl)))
 have g1:w2.cell? ⟨b,q*3+1,none⟩=some (aU SV.n):=(HI2.out.cell _ bQ).trans (congrArg some ((vX (r:=q) bQ (bQ:1<3) bQ).trans (by rw[HAT.out];rfl)))
 have g2:w2.cell? ⟨b,q*3+2,none⟩=some (aU SV.cell):=(HI2.out.cell _ bQ).trans (congrArg some ((vX (r:=q) bQ (bQ:2<3) bQ).trans (by rw[HAT.out];rfl)))
 revert g2;revert g1;revert g0
 exact zq.1):p:=k ⟨h⟩
theorem az8(h:p:=by
 unfold VS.way
 rw[dB]
 ·simp only[Int.toNat_natCast,HX.out,HY.out,Rx.out];push_cast;rfl
 ·simp only[Int.toNat_natCast,HX.out,HY.out,Rx.out]):p:=h
theorem aIC(h:q)(k:eG q→p:=by
 intro zq
 have s1:IntKind.i64.wrap ((pc:Int)+1)=(pc:Int)+1:=IntWalk.i64_in _ bQ
 have s2:IntKind.i64.wrap ((pc:Int)+1+(o:Int))=(pc:Int)+1+(o:Int):=IntWalk.i64_in _ bQ
 revert s2;revert s1
 exact zq.1):p:=k ⟨h⟩
theorem axG(h:q)(k:eG q→p:=by
 intro zq
 refine NoPanic.normal ?_
 generalize hW:World.setCell (World.setCell (World.setCell wq _ _) _ _) _ _=w3
 have I5:P.Img w3 w.heap.size 81 (gQ fV (s.gu d (.num (eH 0)))):=by
  rw[←hW]
  have K:=(((qN.out.set (j:=d*3) bQ (fV (.num (eH 0)) 0)).set (j:=d*3+1) bQ (fV (.num (eH 0)) 1)).set (j:=d*3+2) bQ (fV (.num (eH 0)) 2)).congr (Oy dN (.num (eH 0)))
  exact K
 have B5:But w.heap.size wq w3:=hW▸(((But.refl w.heap.size wq).setCell (.inl rfl) _).setCell (.inl rfl) _).setCell (.inl rfl) _
 revert B5;revert I5;revert hW;revert w3
 exact zq.1):p:=k ⟨h⟩
theorem az9(h:q)(k:eG q→p:=by
 intro zq
 generalize hW:World.setCell (World.setCell (World.setCell wb _ _) _ _) _ _=w7
 have AU:P.Img w7 w5.heap.size 81 (gQ fC (s.narrowed ⟨c,d,d,true,o,nn⟩ ⟨pl,ph⟩ ⟨ql,qh⟩)):=by
  exact aIA
 have BU:But w5.heap.size w6 w7:=(D8.trans Ej).trans (hW▸((((((But.refl w5.heap.size wb).setCell (.inl rfl) _)).setCell (.inl rfl) _)).setCell (.inl rfl) _))
 have zL:=bW (Ba.out.but BU HAU.out)
 have Lj:=bW (BU.img uD.out bQ XW)
 have qx:=bW (aeS BG.out BU bQ)
 have Ld:=bW AU
 have uG:Hid (kG (s.narrowed ⟨c,d,d,true,o,nn⟩ ⟨pl,ph⟩ ⟨ql,qh⟩)):=HS.out.narrowed _ Lu.out.1 Lu.out.2
 revert uG;revert Ld;revert qx;revert Lj;revert zL;revert BU;revert AU;revert hW;revert w7
 exact zq.1):p:=k ⟨h⟩
theorem CG(h:p:=by simp[go_sem, *]):p:=h
theorem aAa(h:q)(k:eG q→p:=by
 intro zq
 generalize hW:World.setCell (World.setCell (World.setCell wq _ _) _ _) _ _=wx
 have K1:P.Img wx b 81 (gQ fC { s with regs:=upd (Qz s.regs 6) 0 (.num fP)}):=by
  rw[←hW]
  have K:=(((qN.out.set (j:=0) bQ (fC (.num fP) 0)).set (j:=1) bQ (fC (.num fP) 1)).set (j:=2) bQ (fC (.num fP) 2)).congr (Oy (bQ:0<11) (.num fP))
  exact K
 have Uj:=bW K1
 have HB2:=bW (show But b w wx from hW▸((qA.out.setCell (.inl rfl) _).setCell (.inl rfl) _).setCell (.inl rfl) _)
 clear K1 hW
 revert HB2;revert Uj;revert wx
 exact zq.1):p:=k ⟨h⟩
theorem agR(h:q)(k:eG q→p:=by
 intro zq
 have g0:=IQ.free (d*3) bQ;have g1':=IQ.free (d*3+1) bQ;have g2':=IQ.free (d*3+2) bQ
 have qN:=bW IQ
 have qA:=bW hbq
 revert qA;revert qN;revert g2';revert g1';revert g0
 exact zq.1):p:=k ⟨h⟩
theorem anl(h:p:=by rw[hf2 _ _ fD];first|done|(simp[go_sem,XM,zG,zH,zI,zJ,zK];done)|assumption):p:=h
theorem anm(h:p:=by rw[hf2 _ _ fD];first|done|(simp[go_sem,XP,zG,zH,zI,zJ,zK];done)|assumption):p:=h
theorem ano(h:p:=by rw[hc2 _ _ fD];first|done|(simp[go_sem,UJ,zG,zH,zI,zJ,zK];done)|assumption):p:=h
theorem anp(h:p:=by rw[hc2 _ _ fD];first|done|(simp[go_sem,UK,zG,zH,zI,zJ,zK];done)|assumption):p:=h
theorem aub(h:p:=by
 refine bodyPost_ret (v:=.tuple #[.agg #[.int .u8 0,aU 0,aU 0],aU 1]) ?_ rfl ⟨rfl,gI⟩
 simp[results,Tryz.results107,go_sem, *]):p:=h
theorem JF(h:p:=by unfold maxLen;omega):p:=h
theorem afS(h:p:=by exact Gw.out.but (c:=w.heap.size) HB1.out (Nat.le_refl _) bQ HNS.out):p:=h
theorem iC(h:p:=by rfl):p:=h
theorem XI(h:p:=by rw[hc1 _ _ dY];simp[go_sem]):p:=h
theorem auc(h:q)(k:eG q→p:=by
 intro zq
 have r0:w9.cell? ⟨w.heap.size+1,0,none⟩=some (aU 0):=C9.cell 0 bQ
 have r1:w9.cell? ⟨w.heap.size+1,1,none⟩=some (aU 0):=C9.cell 1 bQ
 have t0:=C9.free 0 bQ
 have t1:=C9.free 1 bQ
 have Y0:w.heap.size+1<w9.heap.size:=C9.lt bQ
 revert Y0;revert t1;revert t0;revert r1;revert r0
 exact zq.1):p:=k ⟨h⟩
theorem JC(h:p:=by simp only;omega):p:=h
theorem azT(h:p:=by
 have e2:(cur.toList.drop ((o+1)*8)).take (r.length*8)=((cur.toList.drop (o*8)).take ((r.length+1)*8)).drop 8:=by
  rw[List.drop_take,List.drop_drop]
  congr 1<;>(try congr 1)<;>omega
 rw[e2,h6,List.flatMap_cons,List.drop_append_of_le_length (by rw[Gq];omega),List.drop_of_length_le (by rw[Gq];omega),List.nil_append]):p:=h
theorem apT(h:q)(k:eG q→p:=by
 intro zq
 have C1:=fun w' (hb:Below w.heap.size w w')=>aID oa L.length cap (nth L) hcap w' (hs.later hb) hin (ha.later hb)
 revert C1
 exact zq.1):p:=k ⟨h⟩
theorem aud(h:q)(k:eG q→p:=by
 intro zq
 simp only[show¬c=28 by omega,show¬c=14 by omega,show¬(15≤c∧c≤24)by omega,show¬c=25 by omega,show¬c=26 by omega,show¬c=27 by omega,show¬c=13 by omega,if_false]
 exact zq.1):p:=k ⟨h⟩
theorem axI(h:q)(k:eG q→p:=by
 intro zq
 have aex:∀ c',w.heap.size≤c'→c'<w3.heap.size→v4.ownBlock≠some c':=fun c' h1 h2=>row_ne hL4.row (fun g hg=>(CY.out.look.row hg).2) h2 (Ug HL.out h1)
 have ao5:=bW (aex w.heap.size bQ bQ)
 have YX:=bW (aex (w.heap.size+1+1) bQ bQ)
 have HI4:=bW (hL4.img HI3.out bQ bQ (Ug HL.out bQ))
 have yY:=bW (hL4.img EK.out bQ bQ (Ug HL.out bQ))
 have Ci:=bW (hL4.img acK.out bQ bQ (Ug HL.out bQ))
 have Dv:=bW (CY.out.trans hL4)
 have z4:w3.heap.size≤w4.heap.size:=hL4.size
 revert z4;revert Dv;revert Ci;revert yY;revert HI4;revert YX;revert ao5;revert aex
 exact zq.1):p:=k ⟨h⟩
theorem apI(h:p:=by repeat' (first|with_reducible exact hwn|with_reducible refine Below.setCell ?_ ?_ _|(simp;done)|(simp;omega))):p:=h
theorem aIE(h:p:=by rw[←hW];exact acA HIS.out (bQ:0<11) (.num fP)):p:=h
theorem aAb(h:q)(k:eG q→p:=by
 intro zq
 have qN:=bW (HIS.out.later hbq zSd)
 have HFQ:=bW (Ui.out.later hbq zFd)
 have HLQ:=bW (Gw.out.later hbq)
 obtain⟨u0,q0⟩:∃ u,wq.cell? ⟨w.heap.size,d*3,none⟩=some u:=⟨_,qN.out.cell (d*3) bQ⟩
 obtain⟨u1,q1⟩:∃ u,wq.cell? ⟨w.heap.size,d*3+1,none⟩=some u:=⟨_,qN.out.cell (d*3+1) bQ⟩
 obtain⟨u2,q2⟩:∃ u,wq.cell? ⟨w.heap.size,d*3+2,none⟩=some u:=⟨_,qN.out.cell (d*3+2) bQ⟩
 have p0:=qN.out.free (d*3) bQ;have p1:=qN.out.free (d*3+1) bQ;have p2:=qN.out.free (d*3+2) bQ
 revert p2;revert p1;revert p0;revert q2;revert u2;revert q1;revert u1;revert q0;revert u0;revert HLQ;revert HFQ;revert qN
 exact zq.1):p:=k ⟨h⟩
theorem X0(h:p:=by rw[IntKind.wrap_i64];omega):p:=h
theorem afT(h:q)(k:eG q→p:=by
 intro zq
 generalize hW:World.setCell (World.setCell (World.setCell w3 _ _) _ _) _ _=wx
 have KX:P.Img wx w.heap.size 81 (gQ fV { s with regs:=upd s.regs 0 (.num fP)}):=by
  exact aIE
 refine aIB ?_;intro BX
 clear hW
 have vU:=bW KX
 have sS:=bW BX
 revert sS;revert vU;revert BX;revert KX;revert wx
 exact zq.1):p:=k ⟨h⟩
theorem aew(h:q)(k:eG q→p:=by
 intro zq
 rw[show((pc:Int)+1+(o:Int))=((pc+1+o:Nat):Int)by push_cast;rfl]
 exact zq.1):p:=k ⟨h⟩
theorem ato(h:q)(k:eG q→p:=by
 intro zq
 rintro e w2 ⟨rfl,hb2⟩
 have HB2:=bW (HB1.out.trans (hb2.mono HB1.out.size))
 have I2:=Ny.out.later hb2 (Ny.out.lt bQ)
 have b0:=I2.cell 0 bQ;have b1:=I2.cell 1 bQ;have g0:=I2.free 0 bQ;have g1:=I2.free 1 bQ
 have z2:w.heap.size<w2.heap.size:=I2.lt bQ
 clear hb2 I2
 revert z2;revert g1;revert g0;revert b1;revert b0;revert HB2;revert w2
 exact zq.1):p:=k ⟨h⟩
theorem axy(h:q)(k:eG q→p:=by
 intro zq
 have Ye:Hid (P.Img w6 w5.heap.size 81 (gQ fV (s.narrowed ⟨c,d,d,true,o,nn⟩ ⟨pl,ph⟩ ⟨ql,qh⟩))):=by
  show P.Img w6 w5.heap.size 81 (gQ fV (s.narrowed ⟨c,d,d,true,o,nn⟩ ⟨pl,ph⟩ ⟨ql,qh⟩))
  rw[show(s.narrowed ⟨c,d,d,true,o,nn⟩ ⟨pl,ph⟩ ⟨ql,qh⟩)=s from by unfold VS.narrowed;rw[dB rfl,dB rfl]]
  exact HU.out
 have BU:=But.refl w5.heap.size w6
 refine amc ?_;intro AV aaw aax NR Ua aay aaz
 have z7:w6.heap.size≤w6.heap.size:=BU.size
 have uG:Hid (kG (s.narrowed ⟨c,d,d,true,o,nn⟩ ⟨pl,ph⟩ ⟨ql,qh⟩)):=HS.out.narrowed _ Lu.out.1 Lu.out.2
 revert uG;revert z7;revert aaz;revert aay;revert Ua;revert NR;revert aax;revert aaw;revert AV;revert BU;revert Ye
 exact zq.1):p:=k ⟨h⟩
theorem atd(h:p:=by repeat' (first|with_reducible (first|exact HWr.out|apply bR|apply bD|apply bN|apply bA|apply bS)|(simp;done)|(simp;omega)|omega)):p:=h
theorem ax0(h:p:=by
 rcases hb with rfl|⟨j,hj,hb|hb⟩
 ·exact .inl (.inl rfl)
 ·exact .inl (.inr ⟨j,hj,.inl hb⟩)
 ·by_cases e:j=k
  ·subst e
   rw[upd_same]at hb
   rcases apc b hb with x|x
   ·exact .inl (.inr ⟨j,hj,.inr x⟩)
   ·exact .inr x
  ·rw[fB e]at hb
   exact .inl (.inr ⟨j,hj,.inr hb⟩)):p:=h
theorem aAc(h:p:=by have:=hb2.size;simp at this;omega):p:=h
theorem ax4(h:q)(k:eG q→p:=by
 intro zq
 have x10:=@run_callFunc_extern Tryz.prog 174 _ ReflectliteValue.set Tryz.func174 dF dF dF dF
 have m0:=aGo
 have m1:=aGp
 have m2:=aGq
 have m3:=aGr
 have m4:=aGs
 have m5:=aGh
 have m6:=aGi
 have m7:=methodKind
 have m8:=methodElem
 have m9:=methodImplements
 have m10:=methodAssignableTo
 have m11:=aGj
 have m12:=aGk
 have m13:=aGm
 have m14:=aGn
 have n8:=aGl ⟨w.heap.size,0,none⟩ t ((w.alloc (.cells #[.pointer (some t)] 236)).alloc (.cells #[.pointer (some ⟨14,236,none⟩),.pointer (some ⟨w.heap.size,0,none⟩),.int .u64 150] 271)) dY
 have hlt:5<w.heap.size:=block_lt_of_cell hg
 revert hlt;revert n8;revert m14;revert m13;revert m12;revert m11;revert m10;revert m9;revert m8;revert m7;revert m6;revert m5;revert m4;revert m3;revert m2;revert m1;revert m0;revert x10
 exact zq.1):p:=k ⟨h⟩
theorem aue(h:p:=by show Nz _ _=_;unfold Nz;rw[dw];rintro ⟨h7,h8⟩;rw[B.mk.injEq]at h8;first|exact h3 h8.1|exact h4 h8.2|exact h2 h7):p:=h
theorem apU(h:p:=by
 rcases Nat.lt_or_ge j n with h|h
 ·exact h
 ·exact absurd hj (tail_waits hs hc hn inv _ i rfl hin hun j h)):p:=h
theorem U3(h:p:=by unfold In64 at *;omega):p:=h
theorem asf(h:p:=by
 have hs:c.size=n:=by rw[←Array.length_toList,e];simp
 refine Img.of_cells hb hs.symm fun j hj=>?_
 rw[←Array.getElem?_toList,e]
 simp[hj]):p:=h
theorem adb(h:q)(k:eG q→p:=by
 intro zq
 refine aIz ?_;intro p2
 have z2:wd.heap.size<w2.heap.size:=aAc
 refine aIy ?_;intro Q7 z3 z4 HI2 HB2
 have Tv:=bW (HOW.out.kept (But.of (b:=b) hB2).grown az0)
 revert Tv;revert HB2;revert HI2;revert z4;revert z3;revert Q7;revert z2;revert p2
 exact zq.1):p:=k ⟨h⟩
theorem adg(h:q)(k:eG q→p:=by
 intro zq
 obtain⟨x0,x1,x2,x3,x4,x5,x6,x7,x8,x9,x10,x11,x12⟩:=AQ ZA.out
 simp only at x0 x1 x2 x3 x4 x5 x6 x7 x8 x9 x10 x11 x12
 revert x12;revert x11;revert x10;revert x9;revert x8;revert x7;revert x6;revert x5;revert x4;revert x3;revert x2;revert x1;revert x0
 exact zq.1):p:=k ⟨h⟩
theorem aAd(h:p:=by
 simp only[Value.slice.injEq,Option.some.injEq,Addr.mk.injEq,and_true,true_and]at hv
 obtain⟨rfl,rfl⟩:=hv
 exact⟨cur,hg,hc,hm,hs,hx⟩):p:=h
theorem azc(h:q)(k:eG q→p:=by
 intro zq
 have LM:=bW wL
 have HV:=bW hv
 have HB2:=bW hb
 have zgb:=HGB.out.2
 have G0':=(hb.cell (p:=⟨w.heap.size+1+1,0,none⟩) zr1).trans G0
 have E0':=(hb.frozen (p:=⟨w.heap.size+1+1,0,none⟩) zr1).trans E0
 have G1':=(hb.cell (p:=⟨w.heap.size+1+1,1,none⟩) zr1).trans G1
 have E1':=(hb.frozen (p:=⟨w.heap.size+1+1,1,none⟩) zr1).trans E1
 have G2':=(hb.cell (p:=⟨w.heap.size+1+1,2,none⟩) zr1).trans G2
 have E2':=(hb.frozen (p:=⟨w.heap.size+1+1,2,none⟩) zr1).trans E2
 revert E2';revert G2';revert E1';revert G1';revert E0';revert G0';revert zgb;revert HB2;revert HV;revert LM
 exact zq.1):p:=k ⟨h⟩
theorem auf(h:p:=by simp[results,Tryz.results146,go_sem,zG,Uz,UA,zH,UC,UD,zI,UE,UF,zJ,UG,UH,zK,UJ,UK]):p:=h
theorem apV(h:q)(k:eG q→p:=by
 intro zq
 have y1:w.heap.size+1<w3.heap.size:=bQ
 have y2:A<w3.heap.size:=bQ
 have y3:w.heap.size<w3.heap.size:=bQ
 have y4:b<w3.heap.size:=bQ
 revert y4;revert y3;revert y2;revert y1
 exact zq.1):p:=k ⟨h⟩
theorem axA(h:p:=by refine⟨v8,rfl,((CY.out.trans Hg.out).but (c:=w.heap.size+1+1) (((But.refl (w.heap.size+1+1) _).setCell (.inl rfl) _).setCell (.inl rfl) _) (show w.heap.size≤w.heap.size+1+1 by omega) bQ (VN.out _ bQ bQ)).later ((Below.refl _ _).alloc (Nat.le_refl _) _)⟩):p:=h
theorem apW(h:q)(k:eG q→p:=by
 intro zq
 refine ac4 ?_;intro w2 hb2 hB2
 have p0:w2.cell? ⟨wd.heap.size,0,none⟩=some (.int .u8 102):=(hb2.cell (p:=⟨wd.heap.size,0,none⟩) dY).trans oZ
 revert p0;revert hB2;revert hb2;revert w2
 exact zq.1):p:=k ⟨h⟩
theorem aev(h:q)(k:eG q→p:=by
 intro zq
 rw[show((pc:Int)+1)=((pc+1:Nat):Int)by push_cast;rfl]
 exact zq.1):p:=k ⟨h⟩
theorem aAe(h:p:=by
 have e:dV 12 ⟨al,ah⟩ ⟨bl,bh⟩=⟨P.does 12 al (sh bl:Int),P.does 12 ah (sh bl:Int)⟩:=(apX ⟨al,ah⟩ ⟨bl,bh⟩).symm.trans (by unfold aj7 rk;simp only;rw[dB h1])
 rw[e]
 clear e
 have t1:(bl==bh)=true:=AO
 clear h1
 exact aAf):p:=h
theorem anq(h:q)(k:eG q→p:=by
 intro zq
 have hxi:In64 x:=apY ha.1 ha.2.1 hx.1 hx.2
 have hyi:In64 y:=apY hb.1 hb.2.1 hy.1 hy.2
 revert hyi;revert hxi
 exact zq.1):p:=k ⟨h⟩
theorem acJ(h:p:=by simp[results,Tryz.results104,go_sem, *]):p:=h
theorem AO(h:p:=by simp[h1]):p:=h
theorem awK(h:q)(k:eG q→p:=by
 intro zq
 have HW1:=bW (show Below w.heap.size w w1 from Below.trans ald (hb.mono fD))
 have R1:Img w1 (w.heap.size+2) 19 aoF:=Img.later (Img.alloc (Img.mk2 aug iC) _) hb dY
 have F1:Img w1 (w.heap.size+3) 2 (fun _=>aU 0):=Img.later (Img.mk2 (by simpa using heap_alloc_new (((w.alloc _).alloc _).alloc _) _) iC) hb dY
 revert F1;revert R1;revert HW1
 exact zq.1):p:=k ⟨h⟩
theorem azf(h:p:=by exact⟨(hb.cell l).trans e0,(hb.cell (p:=⟨_,_,none⟩) l).trans e1,(hb.cell (p:=⟨_,_,none⟩) l).trans e2,(hb.cell (p:=⟨_,_,none⟩) l).trans e3,(hb.cell (p:=⟨_,_,none⟩) l).trans e4,(hb.cell (p:=⟨_,_,none⟩) l).trans e5⟩):p:=h
theorem aAg(h:q)(k:eG q→p:=by
 intro zq
 refine atX ?_;intro CO
 have CN:=bW (show ∀ wd dr os,Calls Tryz.prog 116 #[.agg #[aU 0,aU 0]] (Go.Sort.grow (redrawn wd dr) os) fun e w'=>e=.returned (.agg #[aU 1,aU 0,aU 0])∧∃ p:Regrown,w'=Go.Sort.grow (redrawn wd p.d) p.os from fun wd dr os=>Calls.regrown_of (ajD 0 0 _))
 have q1:=cell_regrown f1
 refine OD 6 dF dF ?_
 revert q1;revert CN;revert CO
 exact zq.1):p:=k ⟨h⟩
theorem asI(h:p:=by exact⟨rfl,rfl,rfl,(World.grownBy_alloc W.drew _ none).size,fun k hk _=>(World.grownBy_alloc W.drew _ none).block k hk dY⟩):p:=h
theorem OC(h:p:=by rw[←hW];simp):p:=h
theorem NP(h:p:=by push_cast;omega):p:=h
theorem auh(h:p:=by
 congr 1
 funext j
 by_cases h:j=0
 ·subst h;rw[upd_same];rfl
 ·rw[fB h,dw h];unfold CZ;simp only[Nat.lt_succ_iff]):p:=h
theorem anr(h:p:=by first|exact Nat.le_refl _|(simp;done)|(simp;omega)):p:=h
theorem al8(h:p:=by simpa using heap_alloc_new (World.alloc w _) _):p:=h
theorem apZ(h:q)(k:eG q→p:=by
 intro zq
 have k0:=cell_regrown f0;have k1:=cell_regrown f1;have k2:=cell_regrown f2;have k3:=cell_regrown f3;have k4:=cell_regrown f4;have k8:=cell_regrown f5
 revert k8;revert k4;revert k3;revert k2;revert k1;revert k0
 exact zq.1):p:=k ⟨h⟩
theorem aIF(h:p:=by
 intro j hj h0 h1
 show J3 (rU (iO S f) X k) (rU (iO S f) Y)=K (j+1)
 have e1:K 1=rU (iO S f) X k:=by rw[hK1,hK0]
 rw[←e1]
 unfold J3
 rcases j with _|_|j
 ·rw[dB h1]
 ·rw[dw (by simpa using h0),hK2]
 ·omega):p:=h
theorem azO(h:p:=by
 obtain⟨og,cap,rfl,h2,h3,h4⟩:=h
 refine⟨og,cap,rfl,h2,h3,?_⟩
 rcases h4 with h4|⟨g,o,cur,rfl,hg,h5⟩
 ·exact .inl h4
 ·exact .inr ⟨g,o,cur,rfl,(hf.block g (Array.getElem?_eq_some_iff.1 hg).1 (h1 g rfl)).trans hg,h5⟩):p:=h
theorem aAh(h:q)(k:eG q→p:=by
 intro zq
 have Uc:=bW (aj8.out.later hb3 zrs)
 have Uk:=bW (aui.out.later hb3 zrA)
 have EK:=bW (HT1.out.later hb3 zrt)
 have Hq:=bW (uS.out.later hb3)
 have HI3:=bW (HI'.out.later hb3 zrb)
 have HB3:=bW (HB'.out.trans (But.of hb3))
 have z3:wr.heap.size≤w3.heap.size:=hb3.size
 obtain⟨f0,f1,f2,f3,f4,f5⟩:=zM EK.out
 have a1':=(hb3.cell (p:=⟨A,1,none⟩) zrA).trans a1'
 have a2':=(hb3.cell (p:=⟨A,2,none⟩) zrA).trans a2'
 have b1':=(hb3.cell (p:=⟨B,1,none⟩) zrB).trans b1'
 have b2':=(hb3.cell (p:=⟨B,2,none⟩) zrB).trans b2'
 simp only at f0 f1 f2 f3 f4 f5
 revert b2';revert b1';revert a2';revert a1';revert f5;revert f4;revert f3;revert f2;revert f1;revert f0;revert z3;revert HB3;revert HI3;revert Hq;revert EK;revert Uk;revert Uc
 exact zq.1):p:=k ⟨h⟩
theorem aj9(h:p:=by injection h0 with h0;exact⟨g,h0⟩):p:=h
theorem akb(h:p:=by
 by_cases e:pc+1=n
 ·have:=HX.out e;omega
 ·omega):p:=h
theorem azS(h:p:=by
 have e1:((cur.toList.drop (o*8)).take ((r.length+1)*8))[j]?=some u:=by
  rw[h6,List.flatMap_cons,List.getElem?_append_left (by rw[Gq];omega)];exact hj
 rw[List.getElem?_take,dB bQ,List.getElem?_drop]at e1
 simpa using e1):p:=h
theorem axh(h:q)(k:eG q→p:=by
 intro zq
 have hKR:∀ j,j<2→(K j).1.1=0→(K (j+1)).1.1≠0→J4 (iO S f) pc k (.go X Y)=K (j+1):=by
  exact aIF
 have hKE:(K 1).1.1=0→J4 (iO S f) pc k (.go X Y)=K 2:=by
  intro h0
  show J3 (rU (iO S f) X k) (rU (iO S f) Y)=K 2
  have e1:K 1=rU (iO S f) X k:=by rw[hK1,hK0]
  rw[←e1]
  unfold J3
  rw[dw (by simpa using h0),hK2]
 have OQ:=bW hK0;have Uj:=bW hK1;have Yo:=bW hK2;have HKR:=bW hKR;have aoU:=bW hKE
 have HX2:=bW hX
 have HY2:=bW hY
 revert HY2;revert HX2;revert aoU;revert HKR;revert Yo;revert Uj;revert OQ;revert hKE;revert hKR
 exact zq.1):p:=k ⟨h⟩
theorem axu(h:q)(k:eG q→p:=by
 intro zq
 have nU4:¬w5.heap.size=w4.heap.size:=bQ
 have nU5:¬w5.heap.size=w4.heap.size+1:=bQ
 have nU6:¬w5.heap.size=w.heap.size+1+1+1:=bQ
 have nU8:¬w4.heap.size=w5.heap.size:=bQ
 have nU9:¬w4.heap.size+1=w5.heap.size:=bQ
 have aek:¬w.heap.size+1+1+1=w5.heap.size:=bQ
 have y4:w4.heap.size+1<w6.heap.size:=bQ
 have y5:w4.heap.size<w6.heap.size:=bQ
 have yT:w.heap.size+1+1+1<w6.heap.size:=bQ
 revert yT;revert y5;revert y4;revert aek;revert nU9;revert nU8;revert nU6;revert nU5;revert nU4
 exact zq.1):p:=k ⟨h⟩
theorem aAi(h:q)(k:eG q→p:=by
 intro zq
 have U4:dQ (fun b=>b=w.heap.size+1+1) w9 ((w9.setCell ⟨w.heap.size+1+1,2,none⟩ (.slice KD (s.out.length+M.out.length) JK)).setCell ⟨w.heap.size+1+1,3,none⟩ (aU (s.steps+st))) :=
  ⟨rfl,rfl,rfl,by simp,fun b _ hb=>(Below.heap_setCell _ _ _ _ hb).trans (Below.heap_setCell _ _ _ _ hb)⟩
 revert U4
 exact zq.1):p:=k ⟨h⟩
theorem adC(h:p:=by have:=Lh.out;exact_mod_cast this):p:=h
theorem adI(h:p:=by have:=Hf.out;exact_mod_cast this):p:=h
theorem KE(h:q)(k:eG q→p:=by
 intro zq
 refine fU ?_;intro HW0
 have hlt:=hI.lt bQ
 revert hlt;revert HW0
 exact zq.1):p:=k ⟨h⟩
theorem aAj(h:p:=by
 rcases h.2 with ⟨hv,_⟩|⟨g',cap',cur,hv,hb,hg,hc,hm,hs,hx⟩
 ·cases hv
 ·simp only[Value.slice.injEq,Option.some.injEq,Addr.mk.injEq,and_true,true_and]at hv
  obtain⟨rfl,rfl⟩:=hv
  exact⟨cur,hg,hc,hs⟩):p:=h
theorem aoZ(h:p:=by
 unfold VS.way
 rw[dw]
 simp only[Int.toNat_natCast,HX.out,HY.out,Rx.out]
 decide):p:=h
theorem axW(h:p:=by
 rw[Nat.zero_mul,List.drop_zero]
 simp only[Array.toList_append]
 rw[List.take_append_of_le_length,List.take_of_length_le,List.flatMap_append]
 ·simp
 ·simp[aaG Gq,Gq];omega
 ·simp[aaG Gq,Gq];omega):p:=h
theorem aAk(h:p:=by
 have e:dV 5 ⟨al,ah⟩ ⟨bl,bh⟩=⟨(-9223372036854775808),9223372036854775807⟩:=(akd 5 ⟨al,ah⟩ ⟨bl,bh⟩).symm.trans aAl
 rw[e]
 clear e
 exact ac9):p:=h
theorem aAm(h:p:=by
 have e:dV 6 ⟨al,ah⟩ ⟨bl,bh⟩=⟨(-9223372036854775808),9223372036854775807⟩:=(akd 6 ⟨al,ah⟩ ⟨bl,bh⟩).symm.trans aAl
 rw[e]
 clear e
 exact ac9):p:=h
theorem ap0(h:p:=by
 simp only[show¬c=28 by omega,show¬c=14 by omega,if_false]
 rw[dB hc]):p:=h
theorem ap1(h:p:=by simp only[List.length_append,List.length_take,hxl,hl,CQ,Nat.sub_mul];omega):p:=h
theorem apo(h:q)(k:eG q→p:=by
 intro zq
 obtain⟨hc1,hf1⟩:=jd hb
 have hz1:=hb.size
 simp at hz1
 have HW1:=bW (show Below w.heap.size w w1 from Below.trans gI (hb.mono fD))
 revert HW1;revert hz1;revert hf1;revert hc1
 exact zq.1):p:=k ⟨h⟩
theorem auj(h:p:=by
 obtain⟨g1,g2,g3⟩:=h.JL.acQ hk h2 h1 h3
 exact⟨⟨vs,qs,dO,_,_,_,h.ref g1 g2 g3⟩,auk h g2⟩):p:=h
theorem aul(h:p:=by rw[beq_eq_false_iff_ne];exact he):p:=h
theorem aum(h:p:=by first|exact Below.trans (aIG w _ _ _ _ _) (hb.mono fD)|exact Below.trans hwn (hb.mono fD)):p:=h
theorem aAn(h:p:=by
 have e:dV 9 ⟨al,ah⟩ ⟨bl,bh⟩=⟨(-9223372036854775808),9223372036854775807⟩:=(aAo ⟨al,ah⟩ ⟨bl,bh⟩).symm.trans (by unfold ap2;simp only;rw[dw bQ];rfl)
 rw[e]
 clear e
 exact ac9):p:=h
theorem aAp(h:p:=by
 have e:dV 8 ⟨al,ah⟩ ⟨bl,bh⟩=⟨(-9223372036854775808),9223372036854775807⟩:=(aAq ⟨al,ah⟩ ⟨bl,bh⟩).symm.trans (by unfold ap3;simp only;rw[dw bQ];rfl)
 rw[e]
 clear e
 exact ac9):p:=h
theorem aun(h:q)(k:eG q→p:=by
 intro zq
 refine fU ?_;intro HW0
 have c0:=(hI.cell o bQ).trans (congrArg some h0)
 have c1:=(hI.cell (o+1) bQ).trans (congrArg some h1)
 have c2:=(hI.cell (o+2) bQ).trans (congrArg some h2)
 revert c2;revert c1;revert c0;revert HW0
 exact zq.1):p:=k ⟨h⟩
theorem ac3(h:p:=by have:=HN.out;omega):p:=h
theorem ap4(h:p:=by show zD _ _ _=_;unfold zD;rw[dw h0,hm1];rfl):p:=h
theorem aze(h:p:=by
 have:=LD.out.trans (HB2.out.mono bQ)
 (repeat' (first|with_reducible exact this|with_reducible refine Below.setCell ?_ ?_ _|with_reducible refine Below.alloc ?_ ?_ _|(simp;done)|(simp;omega)|omega))):p:=h
theorem axH(h:q)(k:eG q→p:=by
 intro zq
 have asD:v.ownBlock≠some w.heap.size:=Ug HL.out bQ
 have CY:=bW ((HL2.out.later qA.out).but B5 bQ bQ rM)
 have EK:=bW (B5.img (aej.out.later qA.out bQ) bQ bQ)
 have acK:=bW (B5.img (Yn.out.later qA.out bQ) bQ bQ)
 have HI3:=bW I5
 have z3:wq.heap.size≤w3.heap.size:=B5.size
 obtain⟨f0,f1,f2,f3,f4,f5⟩:=zM EK.out
 simp only at f0 f1 f2 f3 f4 f5
 have HG3:=bW (HG0.out.under (CY.out.below HL.out) hgb)
 have Hq:=bW (YW.out.under (CY.out.below HL.out) hab)
 revert Hq;revert HG3;revert f5;revert f4;revert f3;revert f2;revert f1;revert f0;revert z3;revert HI3;revert acK;revert EK;revert CY;revert asD
 exact zq.1):p:=k ⟨h⟩
theorem aAr(h:q)(k:eG q→p:=by
 intro zq
 refine am6 ?_;intro d0 d1' d2 g0 g1' g2'
 clear d0
 obtain⟨v0,d0⟩:∃ v,w6.cell? ⟨w5.heap.size,d*3,none⟩=some v:=⟨_,sJ.out.cell (d*3) bQ⟩
 clear d1'
 obtain⟨v1,d1'⟩:∃ v,w6.cell? ⟨w5.heap.size,d*3+1,none⟩=some v:=⟨_,sJ.out.cell (d*3+1) bQ⟩
 clear d2
 obtain⟨v2,d2⟩:∃ v,w6.cell? ⟨w5.heap.size,d*3+2,none⟩=some v:=⟨_,sJ.out.cell (d*3+2) bQ⟩
 revert d2;revert v2;revert d1';revert v1;revert d0;revert v0;revert g2';revert g1';revert g0
 exact zq.1):p:=k ⟨h⟩
theorem apJ(h:q)(k:eG q→p:=by
 intro zq
 generalize hW:World.alloc w _=w1
 have hb1:Below w.heap.size w w1:=hW▸(Below.refl w.heap.size w).alloc (Nat.le_refl _) _
 revert hb1;revert hW;revert w1
 exact zq.1):p:=k ⟨h⟩
theorem axD(h:p:=by
 show J4 (iO S f) pc k (.go X Y)=((0,-1),k')
 rw[aoU.out h21,HKK.out]
 have e1:=TY.out;have e2:=HJP.out
 generalize K 2=q at *
 obtain⟨⟨a1,a2⟩,a3⟩:=q
 simp only at e1 e2
 rw[e1,e2]):p:=h
theorem aAs(h:q)(k:eG q→p:=by
 intro zq
 have zu:=IU.lt bQ
 have nUb:¬w5.heap.size=b:=bQ
 have XW:¬b=w5.heap.size:=bQ
 have nU4:¬w5.heap.size=w4.heap.size:=bQ
 have nU5:¬w5.heap.size=w4.heap.size+1:=bQ
 have nU6:¬w5.heap.size=w.heap.size+1:=bQ
 have nU7:¬w5.heap.size=A:=bQ
 have nU8:¬w4.heap.size=w5.heap.size:=bQ
 have nU9:¬w4.heap.size+1=w5.heap.size:=bQ
 have aek:¬w.heap.size+1=w5.heap.size:=bQ
 have auo:¬A=w5.heap.size:=bQ
 revert auo;revert aek;revert nU9;revert nU8;revert nU7;revert nU6;revert nU5;revert nU4;revert XW;revert nUb;revert zu
 exact zq.1):p:=k ⟨h⟩
theorem asw(h:p:=by
 funext j;by_cases h:j=i
 ·subst h;rw[upd_same,upd_same]
 ·rw[fB h,fB h,fB h]):p:=h
theorem aAt(h:p:=by
 have HRR:=bW hR2
 clear hR2
 clear Zw Zx Gv H8 hR hA JM
 generalize kl (M.regs d).kind=ak at *
 generalize kl y.kind=yk at *
 clear bd ab q3
 rcases uv with u1|⟨u1,v1⟩
 ·exact aAu
 ·exact aAu):p:=h
theorem amf(h:q)(k:eG q→p:=by
 intro zq
 have k0:¬(k:Int)<0:=bQ
 have k3:¬3≤(k:Int):=bQ
 have k4:(k:Int)<3:=bQ
 revert k4;revert k3;revert k0
 exact zq.1):p:=k ⟨h⟩
theorem ake(h:p:=by have:=(yj.out.lt b hb).2;omega):p:=h
theorem ap5(h:p:=by
 by_cases p0:0≤al
 ·exact ap6
 ·exact ap6):p:=h
theorem ap7(h:p:=by rw[World.cell?_alloc_lt _ _ ⟨5,0,none⟩ hlt];exact hg):p:=h
theorem aAv(h:p:=by
 simp only[YF,List.mem_cons,List.not_mem_nil,or_false]at hv
 rcases hv with rfl|rfl|rfl|rfl|rfl|rfl|rfl|rfl|rfl|rfl|rfl|rfl|rfl|rfl|rfl|rfl|rfl|rfl|rfl<;>rfl):p:=h
theorem awi(h:p:=by
 refine⟨out,hI,?_⟩
 rw[ho]
 exact hO.kept hB.grown (by have:=hO.lt;cases hv:out.ownBlock with|none=>exact .inl rfl|some g=>(right;intro e;have:=(this g hv).1;injection e;omega))):p:=h
theorem aAw(h:q)(k:eG q→p:=by
 intro zq
 refine(uw.out _ gI).mono ?_
 rintro e w1 ⟨rfl,hb⟩
 have hz1:=hb.size
 simp at hz1
 have HB1:=bW (show Below w.heap.size w w1 from Below.trans gI (hb.mono fD))
 have LQ:P.Img w1 w.heap.size 2 (fun _=>aU 0):=((Img.aas (heap_alloc_new w _)).alloc _).later hb eU
 have IE1:P.Img w1 (w.heap.size+1) 2 (fun _=>aU 0):=(Img.aas al8).later hb dY
 have HI1:=bW LQ
 have HJ1:=bW IE1
 revert HJ1;revert HI1;revert IE1;revert LQ;revert HB1;revert hz1;revert hb;revert w1
 exact zq.1):p:=k ⟨h⟩
theorem afU(h:q)(k:eG q→p:=by
 intro zq
 have KF:=bW (CP.out.later hcut)
 have CU:=bW (ZA.out.later hcut)
 revert CU;revert KF
 exact zq.1):p:=k ⟨h⟩
theorem akg(h:q)(k:eG q→p:=by
 intro zq
 have c0:=(h.img.cell (k*2) bQ).trans (congrArg some (Yq hk).1)
 revert c0
 exact zq.1):p:=k ⟨h⟩
theorem akh(h:p:=by simp only[World.size_alloc];omega):p:=h
theorem aoG(h:p:=by have:=(List.getElem?_eq_some_iff.1 hv).1;simpa using this):p:=h
theorem aAx(h:q)(k:eG q→p:=by
 intro zq
 refine(CN.out _).mono ?_
 rintro e w4 ⟨rfl,hb4⟩
 have EL:=bW (Uc.out.later hb4 y3)
 have NC:=bW (Hq.out.later hb4)
 have HI4:=bW (HI3.out.later hb4 y4)
 have HB4:=bW (HB3.out.trans (But.of hb4))
 have z4:w3.heap.size≤w4.heap.size:=hb4.size
 have yY:=bW (EK.out.later hb4 y1)
 have NV:=bW (Uk.out.later hb4 y2)
 obtain⟨f0,f1,f2,f3,f4,f5⟩:=zM yY.out
 obtain⟨a0',a1',a2'⟩:=ZB NV.out
 simp only at f0 f1 f2 f3 f4 f5 a0' a1' a2'
 have y1:w.heap.size+1<w4.heap.size:=bQ
 have y2:A<w4.heap.size:=bQ
 have y3:w.heap.size<w4.heap.size:=bQ
 have y4:b<w4.heap.size:=bQ
 revert y4;revert y3;revert y2;revert y1;revert a2';revert a1';revert a0';revert f5;revert f4;revert f3;revert f2;revert f1;revert f0;revert NV;revert yY;revert z4;revert HB4;revert HI4;revert NC;revert EL;revert hb4;revert w4
 exact zq.1):p:=k ⟨h⟩
theorem aup(h:p:=by rw[hc3 _ _ fD];first|(simp[go_sem];done)|assumption|(simp[go_sem, *];done)):p:=h
theorem auq(h:p:=by rw[hf3 _ _ fD];first|(simp[go_sem];done)|assumption|(simp[go_sem, *];done)):p:=h
theorem aAy(h:q)(k:eG q→p:=by
 intro zq
 have ht:(letter ka==110)=false∨((letter ka==110)=true∧(letter kb==110)=false):=by
  by_cases e:ka=1
  ·exact .inr ⟨Kw ((DT DZ).2 e),mV (fun h=>hn ⟨e,(DT okb).1 h⟩)⟩
  ·exact .inl (mV (fun h=>e ((DT DZ).1 h)))
 revert ht
 exact zq.1):p:=k ⟨h⟩
theorem axF(h:q)(k:eG q→p:=by
 intro zq
 have IQ:=acI.out.later hbq bQ
 obtain⟨u0,d0⟩:∃ u,wq.cell? ⟨w.heap.size,d*3,none⟩=some u:=⟨_,IQ.cell (d*3) bQ⟩
 obtain⟨u1,d1'⟩:∃ u,wq.cell? ⟨w.heap.size,d*3+1,none⟩=some u:=⟨_,IQ.cell (d*3+1) bQ⟩
 obtain⟨u2,d2⟩:∃ u,wq.cell? ⟨w.heap.size,d*3+2,none⟩=some u:=⟨_,IQ.cell (d*3+2) bQ⟩
 revert d2;revert u2;revert d1';revert u1;revert d0;revert u0;revert IQ
 exact zq.1):p:=k ⟨h⟩
theorem aki(h:q)(k:eG q→p:=by
 intro zq
 refine(aIH _ _ _).mono ?_
 rintro e w3 ⟨rfl,q0,q1,q2,hb3⟩
 have HB3:=bW hb3
 clear hb3
 revert HB3;revert q2;revert q1;revert q0;revert w3
 exact zq.1):p:=k ⟨h⟩
theorem aAz(h:q)(k:eG q→p:=by
 intro zq
 have yY:=bW (EK.out.later hb4 y1)
 have NC:=bW (Hq.out.later hb4)
 have HI4:=bW (HI3.out.later hb4 y4)
 obtain⟨f0,f1,f2,f3,f4,f5⟩:=zM yY.out
 obtain⟨a0,a1,a2⟩:=ZB (Uk.out.later hb4 y2)
 simp only at f0 f1 f2 f3 f4 f5
 have sJ:=bW IU
 have zu:=IU.lt bQ
 have z4:w3.heap.size≤w4.heap.size:=hb4.size
 have LD:=bW (HB2.out.trans ((HB3.out.mono z2).trans (hb4.mono bQ)))
 have yt:w.heap.size+1<w4.heap.size:=bQ
 have yb:b<w4.heap.size:=bQ
 have yA:A<w4.heap.size:=bQ
 have nUb:¬w3.heap.size=b:=bQ
 have XW:¬b=w3.heap.size:=bQ
 revert XW;revert nUb;revert yA;revert yb;revert yt;revert LD;revert z4;revert zu;revert sJ;revert a2;revert a1;revert a0;revert f5;revert f4;revert f3;revert f2;revert f1;revert f0;revert HI4;revert NC;revert yY
 exact zq.1):p:=k ⟨h⟩
theorem axK(h:q)(k:eG q→p:=by
 intro zq
 have IQ:=EM.out.later hbq bQ
 obtain⟨u0,d0⟩:∃ u,wz.cell? ⟨w.heap.size,d*3,none⟩=some u:=⟨_,IQ.cell (d*3) bQ⟩
 obtain⟨u1,d1'⟩:∃ u,wz.cell? ⟨w.heap.size,d*3+1,none⟩=some u:=⟨_,IQ.cell (d*3+1) bQ⟩
 obtain⟨u2,d2⟩:∃ u,wz.cell? ⟨w.heap.size,d*3+2,none⟩=some u:=⟨_,IQ.cell (d*3+2) bQ⟩
 revert d2;revert u2;revert d1';revert u1;revert d0;revert u0;revert IQ
 exact zq.1):p:=k ⟨h⟩
theorem aaK(h:p:=by simp[Value.oneCell']):p:=h
theorem aAA(h:q)(k:eG q→p:=by
 intro zq
 generalize hW:World.setCell (World.setCell w6 _ _) _ _=wa
 have JQ:P.Img wa w5.heap.size 81 _:=hW▸(((sJ.out).set (j:=d*3+1) bQ (aU ql)).set (j:=d*3+2) bQ (aU qh))
 have D8:But w5.heap.size w6 wa:=hW▸((((But.refl w5.heap.size w6).setCell (.inl rfl) _)).setCell (.inl rfl) _)
 clear hW
 revert D8;revert JQ;revert wa
 exact zq.1):p:=k ⟨h⟩
theorem atx(h:q)(k:eG q→p:=by
 intro zq
 rw[e]
 have hmo:=aAB (a:=⟨al,ah⟩) (b:=⟨0,9223372036854775807⟩) ⟨ia,eP⟩ (by unfold B.In In64;simp) (by rw[hm1])
 rw[hm1]at hmo
 revert hmo
 exact zq.1):p:=k ⟨h⟩
theorem acN(h:p:=by simp[Act.eval,Act.put]):p:=h
theorem axX(h:p:=by
 have hw:Region.wanted o (yielded ops a.tmps)=true:=by simp[Region.wanted,hg]
 rw[dB hw]
 unfold Oper.wp
 simp[execOp,hop,resolve,invoke,builtin,hd,hx,hr,Result.andThen]
 exact hK):p:=h
theorem aAC(h:q)(k:eG q→p:=by
 intro zq
 generalize hW:World.setCell (World.setCell wa _ _) _ _=wb
 have JR:P.Img wb w5.heap.size 81 _:=hW▸((aAD.out.set (j:=d*3+1) bQ (aU pl)).set (j:=d*3+2) bQ (aU ph))
 have Ej:But w5.heap.size wa wb:=hW▸((((But.refl w5.heap.size wa).setCell (.inl rfl) _)).setCell (.inl rfl) _)
 clear hW
 revert Ej;revert JR;revert wb
 exact zq.1):p:=k ⟨h⟩
theorem ap8(h:p:=by rw[bne_iff_ne];exact he):p:=h
theorem aAE(h:p:=by
 have hR2:.err 8=R:=akj
 have HRR:=bW hR2
 clear hR2
 clear Zw Zx Gv H8 hR hA JM
 generalize kl (M.regs d).kind=ak at *
 generalize kl y.kind=yk at *
 exact afV):p:=h
theorem aAF(h:p:=by exact⟨v9,rfl,JE.out.but (c:=w.heap.size+1) (((But.refl (w.heap.size+1) _).setCell (.inl rfl) _).setCell (.inl rfl) _) (show w.heap.size≤w.heap.size+1 by omega) bQ NR9.out⟩):p:=h
theorem afW(h:q)(k:eG q→p:=by
 intro zq
 have HZ1:=bW (show w.heap.size<w1.heap.size from hW▸dY)
 revert HZ1
 exact zq.1):p:=k ⟨h⟩
theorem arZ(h:q)(k:eG q→p:=by
 intro zq
 rintro e w1 ⟨rfl,hb⟩;obtain⟨hc1,hf1⟩:=jd hb;have hz1:=hb.size;(try simp at hz1);have HW1:=bW (show Below w.heap.size w w1 from Below.trans gI (hb.mono fD));clear hb
 revert HW1;revert hz1;revert hf1;revert hc1;revert w1
 exact zq.1):p:=k ⟨h⟩
theorem aaq(h:p:=by unfold In64;omega):p:=h
theorem aAG(h:q)(k:eG q→p:=by
 intro zq
 refine wp_region_lit ?_
 refine wpList_build iC 144 _ iC #[] dY #[aU 0,aU 0,aU 0,aU 0,aU 0,aU 0,aU 0,aU 0,aU 0,aU 0,aU 0,aU 0,aU 0,aU 0,aU 0,aU 0,aU 0,.slice none 0 0,aU 0] aII ?_
 exact zq.1):p:=k ⟨h⟩
theorem aur(h:p:=by
 rcases j with _|_|_|j
 ·rfl
 ·rfl
 ·rfl
 ·omega):p:=h
theorem axM(h:q)(k:eG q→p:=by
 intro zq
 have amd:v4.ownBlock≠some w.heap.size:=ao5.out
 have Dx:=bW ((Ql.out.later qA.out).but B5 bQ bQ rM)
 have N7:=bW (B5.img (Es.out.later qA.out bQ) bQ bQ)
 have NY:=bW (B5.img (Ul.out.later qA.out bQ) bQ bQ)
 have uD:=bW I5
 have z6:wz.heap.size≤w6.heap.size:=B5.size
 have agS:=bW NY.out
 have zF6:w.heap.size+1+1<w6.heap.size:=NY.out.lt bQ
 revert zF6;revert agS;revert z6;revert uD;revert NY;revert N7;revert Dx;revert amd
 exact zq.1):p:=k ⟨h⟩
theorem akm(h:p:=by rw[hc1 _ _ fD];simp[go_sem]):p:=h
theorem akr(h:p:=by rw[hf1 _ _ fD];simp[go_sem]):p:=h
theorem aAH(h:q)(k:eG q→p:=by
 intro zq
 have x0:w5.cell? ⟨m,0,none⟩=some (aU sd.oW):=Fq.cell 0 bQ
 have x1:w5.cell? ⟨m,1,none⟩=some (aU sd.num):=Fq.cell 1 bQ
 have x2:w5.cell? ⟨m,2,none⟩=some (.slice oo sd.out.length co):=Fq.cell 2 bQ
 have x3:w5.cell? ⟨m,3,none⟩=some (aU sd.steps):=Fq.cell 3 bQ
 revert x3;revert x2;revert x1;revert x0
 exact zq.1):p:=k ⟨h⟩
theorem aAI(h:p:=by
 subst h0
 have ex:x=0:=bQ
 have ey:y=0:=bQ
 subst ex;subst ey
 have e0:wrap64 0=0:=EH AL
 have f0:fill 0=0:=by unfold fill;simp
 simp[e0,f0]):p:=h
theorem ant(h:p:=by rw[←Array.length_toList,harr];rfl):p:=h
theorem anu(h:p:=by simp[results,Tryz.results190,go_sem]):p:=h
theorem ak8(h:p:=by simp[results,Tryz.results154,go_sem]):p:=h
theorem ax3(h:q)(k:eG q→p:=by
 intro zq
 have x4:=@run_callFunc_extern Tryz.prog 225 _ (ReflectliteType.abiMethod fun t=>do pure (.int .u8 (←Rtype.kind t))) Tryz.func225 dF dF dF dF
 have x5:=@run_callFunc_extern Tryz.prog 241 _ (ReflectliteType.method ReflectliteType.elem) Tryz.func241 dF dF dF dF
 revert x5;revert x4
 exact zq.1):p:=k ⟨h⟩
theorem ZC(h:p:=by simp at hr;omega):p:=h
theorem aAJ(h:p:=by exact(yg.out.alloc yg.out.size _).trans ((DY w5.heap.size arr.toList 0 _).below (by have:=yg.out.size;simp;omega) (fun k e=>by have:=yg.out.size;omega))):p:=h
theorem azP(h:p:=by
 obtain⟨og,cap,rfl,h2,h3,h4⟩:=h
 intro k hk
 rcases h4 with ⟨rfl,_⟩|⟨g,o,cur,rfl,hg,h5⟩
 ·cases hk
 ·injection hk with hk;subst hk;exact⟨_,hg⟩):p:=h
theorem asR(h:q)(k:eG q→p:=by
 intro zq
 have hd:((⟨dl,dh⟩:P.B)=fP)↔(dl=-9223372036854775808∧dh=9223372036854775807):=by unfold fP;simp
 have HD:=bW hd
 have HG:=bW hg
 revert HG;revert HD;revert hd
 exact zq.1):p:=k ⟨h⟩
theorem al5(h:p:=by first|exact Eu.out|exact uU.out):p:=h
theorem aAK(h:q)(k:eG q→p:=by
 intro zq
 have NB:=bW (show some b≠(Value.slice og M.out.length jM).ownBlock from fun e=>by have:=(own b e.symm).1;omega)
 have NW:=bW (show some w.heap.size≠(Value.slice og M.out.length jM).ownBlock from fun e=>by have:=(HO.out.lt _ e.symm).2;omega)
 have hK1:=bW K1;have hB1:=bW B1;have hO1:=bW O1;have anv:=bW own
 revert anv;revert hO1;revert hB1;revert hK1;revert NW;revert NB
 exact zq.1):p:=k ⟨h⟩
theorem aAL(h:p:=by(repeat' (first|with_reducible exact qx.out|with_reducible refine Below.drew ?_|with_reducible refine Below.setCell ?_ ?_ _|(simp;done)|(simp;omega)|omega))):p:=h
theorem ZE(h:q)(k:eG q→p:=by
 intro zq
 have HST:=bW hst
 have zU:=bW hml
 have CL:=bW cL
 revert CL;revert zU;revert HST
 exact zq.1):p:=k ⟨h⟩
theorem azM(h:p:=by repeat' (first|with_reducible exact Below.refl _ _|with_reducible refine Below.drew ?_|with_reducible refine Below.alloc ?_ ?_ _|(simp;done)|(simp;omega))):p:=h
theorem aAM(h:p:=by(repeat' (first|with_reducible exact HRR.out|with_reducible refine Img.drew ?_|with_reducible refine Img.other ?_ ?_ _|(simp;done)|(simp;omega)|omega))):p:=h
theorem afX(h:p:=by exact HB1.out.img Ui.out bQ bQ):p:=h
theorem agt(h:p:=by rw[uy.out];exact CX.out):p:=h
theorem aoy(h:q)(k:eG q→p:=by
 intro zq
 simp only[List.take_succ_cons,List.take_zero,List.drop_succ_cons,List.drop_zero]
 exact zq.1):p:=k ⟨h⟩
theorem aoL(h:p:=by simpa using heap_alloc_new (World.alloc w1 _) _):p:=h
theorem al4(h:p:=by first|exact IA.out|exact IB.out):p:=h
theorem azJ(h:p:=by
 rw[Nat.zero_add]at h
 refine⟨by simpa using h,?_⟩
 rw[World.frozen?_setCells]
 have:=(ht' j (by rw[ajv];exact hj)).2
 rwa [Nat.zero_add]at this):p:=h
theorem ZF(h:p:=by rw[←ho];rfl):p:=h
theorem aus(h:p:=by
 obtain⟨p,hp⟩:=hwz
 rw[hp];exact below_regrown _ _ _):p:=h
theorem aAN(h:p:=by
 by_cases h:0≤a.lo∧0≤b.lo
 · rw[dB h,dw bQ,dw bQ,dw bQ,dw bQ];rfl
 · rw[dw h,dw bQ,dw bQ,dw bQ,dB bQ]):p:=h
theorem aut(h:p:=by exact .inl ⟨rfl,by omega,pn,zU.out,HI1.out,by rw[HST.out];push_cast;rfl⟩):p:=h
theorem anw(h:p:=by have:=yg.out.size;omega):p:=h
theorem auu(h:p:=by
 rcases uF.out.2 with ⟨h0,h1⟩|⟨g,cap',cur,h0,_⟩
 ·omega
 ·exact aj9):p:=h
theorem aAO(h:p:=by exact HLQ.out.but (c:=w.heap.size) ((((But.refl w.heap.size _).setCell (.inl rfl) _).setCell (.inl rfl) _).setCell (.inl rfl) _) (Nat.le_refl _) bQ HNS.out):p:=h
theorem auv(h:p:=by
 by_cases h2:1≤j∧j<k
 ·rw[dB h2,dB bQ]
 ·rw[dw h2,dw bQ]):p:=h
theorem asx(h:p:=by
 rcases j with _|_|_|_|_|_|j
 ·rfl
 ·rfl
 ·rfl
 ·rfl
 ·rfl
 ·rfl
 ·omega):p:=h
theorem apK(h:p:=by
 show 3-((k:Int)+1).toNat<3-(k:Int).toNat
 omega):p:=h
theorem axB(h:q)(k:eG q→p:=by
 intro zq
 obtain⟨us1,l1'⟩:∃ u,w6.cell? ⟨w5.heap.size,sr*3+1,none⟩=some u:=⟨_,HU.out.cell (sr*3+1) bQ⟩
 obtain⟨us2,l2⟩:∃ u,w6.cell? ⟨w5.heap.size,sr*3+2,none⟩=some u:=⟨_,HU.out.cell (sr*3+2) bQ⟩
 have m1':=HU.out.free (sr*3+1) bQ;have m2':=HU.out.free (sr*3+2) bQ
 revert m2';revert m1';revert l2;revert us2;revert l1';revert us1
 exact zq.1):p:=k ⟨h⟩
theorem ap9(h:p:=by first|omega|(simp;done)|(simp;omega)):p:=h
theorem aAP(h:q)(k:eG q→p:=by
 intro zq
 have Q5:=bW (EL.out.later hb5 y3)
 have KC:=bW (NC.out.later hb5)
 have EM:=bW (HI4.out.later hb5 y4)
 have yg:=bW (HB4.out.trans (But.of hb5))
 have Es:=bW (yY.out.later hb5 y1)
 have Tc:=bW (NV.out.later hb5 y2)
 have y1:w.heap.size+1<w5.heap.size:=bQ
 have y2:A<w5.heap.size:=bQ
 have y3:w.heap.size<w5.heap.size:=bQ
 have y4:b<w5.heap.size:=bQ
 revert y4;revert y3;revert y2;revert y1;revert Tc;revert Es;revert yg;revert EM;revert KC;revert Q5
 exact zq.1):p:=k ⟨h⟩
theorem aoS(h:q)(k:eG q→p:=by
 intro zq
 obtain⟨ol,oh⟩:=HTT.out.2.1 (.inr (show 15≤c∧c≤24 from by omega))
 simp only at ol oh
 revert oh;revert ol
 exact zq.1):p:=k ⟨h⟩
theorem aoR(h:q)(k:eG q→p:=by
 intro zq
 have dN:d<11:=bQ
 have sN:sr<11:=bQ
 have d1:(d:Int)<11:=bQ
 have s1:(sr:Int)<11:=bQ
 revert s1;revert d1;revert sN;revert dN
 exact zq.1):p:=k ⟨h⟩
theorem aqa(h:q)(k:eG q→p:=by
 intro zq
 have t4:(letter (s.regs 1).kind !=110)=true:=Dl (fun h=>k1 ((DT ok1).1 h))
 revert t4
 exact zq.1):p:=k ⟨h⟩
theorem aks(h:p:=by unfold sQ;simp[h1,h2]):p:=h
theorem aAQ(h:p:=by
 have hj:j<16:=by have:=(List.getElem?_eq_some_iff.1 hv).1;rwa [aaP]at this
 have:=IM.cell (1+j) bQ
 rw[this,←hv]
 exact aya):p:=h
theorem auw(h:p:=by
 rw[←hxs,List.getElem?_take]at hj
 split at hj
 ·simpa using hj
 ·cases hj):p:=h
theorem ayy(h:q)(k:eG q→p:=by
 intro zq
 have hv:iD ⟨k,⟨lo,hi⟩⟩ o=if(dV 2 ⟨lo,hi⟩ (eH o)).lo<low k∨high k<(dV 2 ⟨lo,hi⟩ (eH o)).hi then(kK,2)else(dV 2 ⟨lo,hi⟩ (eH o),0):=by
  unfold iD;rw[dw JC,dw JC]
 revert hv
 exact zq.1):p:=k ⟨h⟩
theorem axJ(h:q)(k:eG q→p:=by
 intro zq
 generalize hW:World.alloc w4 _=w5
 have hb5:Below w4.heap.size w4 w5:=hW▸(Below.refl _ _).alloc (Nat.le_refl _) _
 clear hW
 have EM:=bW (HI4.out.later hb5 bQ)
 have Es:=bW (yY.out.later hb5 bQ)
 have Ul:=bW (Ci.out.later hb5 bQ)
 have Ql:=bW (Dv.out.later hb5)
 have z5:w4.heap.size≤w5.heap.size:=hb5.size
 revert z5;revert Ql;revert Ul;revert Es;revert EM;revert hb5;revert w5
 exact zq.1):p:=k ⟨h⟩
theorem axP(h:q)(k:eG q→p:=by
 intro zq
 have HR2:Hid ((if x.kind=5 then YR.go (some (s.gu d (.num (eH 0)),((pc+1:Nat):Int))) (some (s.gu d ⟨4,eH 0⟩,((pc+1+o:Nat):Int)))else YR.go (some (s,((pc+1+o:Nat):Int))) none)=R):=hR
 revert HR2
 exact zq.1):p:=k ⟨h⟩
theorem aqb(h:p:=by simp only[List.length_cons]at hk;omega):p:=h
theorem aAR(h:p:=by simp[results,Tryz.results151,go_sem,OE,OG,OH,OI,Rt,Ru,OJ,OL,z10,z11,z12,z13]):p:=h
theorem aAS(h:q)(k:eG q→p:=by
 intro zq
 refine wpQuiet_nil ?_
 intro wz hwz
 have hbz:Below wx.heap.size wx wz:=by
  exact aus
 clear hwz
 have IZ:=Uj.out.later hbz zx
 have Ux:=bW IZ
 have UN:=bW (HB2.out.trans (But.of hbz))
 have d0:=IZ.cell 0 bQ
 have d1:=IZ.cell 1 bQ
 have d2:=IZ.cell 2 bQ
 have s0:=IZ.free 0 bQ
 have s1:=IZ.free 1 bQ
 have s2:=IZ.free 2 bQ
 clear hbz IZ
 revert s2;revert s1;revert s0;revert d2;revert d1;revert d0;revert UN;revert Ux;revert wz
 exact zq.1):p:=k ⟨h⟩
theorem auy(h:q)(k:eG q→p:=by
 intro zq
 have C1:=fun w' (hb:Below w.heap.size w w')=>auz oa L.length cap (nth L) hcap w' (hs.later hb) hin (hg.later hb)
 revert C1
 exact zq.1):p:=k ⟨h⟩
theorem aAT(h:p:=by(repeat' (first|with_reducible exact qA.out|with_reducible refine But.drew ?_|with_reducible refine ase ?_ ?_ _|exact .inl rfl))):p:=h
theorem anx(h:p:=by simp[results,Tryz.results111,go_sem, *]):p:=h
theorem axE(h:q)(k:eG q→p:=by
 intro zq
 have HR2:Hid ((if x.kind=5 then YR.go (some (s.gu d (.num (eH 0)),((pc+1+o:Nat):Int))) (some (s.gu d ⟨4,eH 0⟩,((pc+1:Nat):Int)))else YR.go (some (s,((pc+1:Nat):Int))) none)=R):=hR
 revert HR2
 exact zq.1):p:=k ⟨h⟩
theorem axQ(h:p:=by
 simp only[Nat.add_zero]at hst
 simp[Builtin.append_,run_underlying ht,sizeOf,typeInfo,hi,Builtin.lenOf,hroom,hf,Addr.add_lit,hst]):p:=h
theorem aAU(h:p:=by
 refine wpList_plain hgd fun K hK=>?_
 unfold Oper.wp
 simp[execOp,ho,resolve,invoke,builtin,hd,hs,hr,Result.andThen]
 exact hK _ _ h):p:=h
theorem aqc(h:p:=by simp[results,Tryz.results192,go_sem]):p:=h
theorem aqd(h:p:=by simp[results,Tryz.results193,go_sem]):p:=h
theorem ayw(h:p:=by
 have hadd:∀ k,(⟨g,0,none⟩:Addr).add k=⟨g,k,none⟩:=fun k=>by unfold Addr.add;split<;>simp_all
 rwa [hadd]at this):p:=h
theorem axV(h:p:=by
 simp only[Array.size_append,auA,hzs,List.size_toArray,List.length_append,aaG Gq,Gq]
 rw[Nat.sub_mul];omega):p:=h
theorem auB(h:q)(k:eG q→p:=by
 intro zq
 have d0:=hI.cell 1 bQ
 have d1:=hI.cell 2 bQ
 have d2:=hI.cell 3 bQ
 have s0:=hI.free 1 bQ
 have s1:=hI.free 2 bQ
 have s2:=hI.free 3 bQ
 have HI1:=bW hI
 have HB1:=bW hB
 revert HB1;revert HI1;revert s2;revert s1;revert s0;revert d2;revert d1;revert d0
 exact zq.1):p:=k ⟨h⟩
theorem anz(h:p:=by simp[results,Tryz.results74,go_sem, *]):p:=h
theorem aqe(h:p:=by rw[←h.l,List.length_map]):p:=h
theorem aAV(h:p:=by
 refine aIJ (g:=g9) (er:=er) (p:=p) h3 ((ev 9 dS _).trans e9) (es _) (World.there_setCells t9 _ _ _) ?_
 rw[d3,pn]
 exact h):p:=h
theorem auC(h:p:=by have:=adw bl;omega):p:=h
theorem asM(h:p:=by
 funext j
 by_cases e:j=k
 ·subst e;rw[upd_same]
 ·rw[fB e]):p:=h
theorem awj(h:p:=by
 unfold dM.call
 by_cases k0:(M.regs 1).kind=0
 ·rw[dB ⟨h.1,k0⟩,dB k0]
 ·rw[dw (fun x=>k0 x.2),dB h,dw k0]):p:=h
theorem aAW(h:p:=by
 rw[HF.out]
 first|exact HO1.out|(simp only[List.length_append,List.length_cons,List.length_nil,Nat.zero_add];exact HO1.out)):p:=h
theorem ajw(h:q)(k:eG q→p:=by
 intro zq
 have IA:=bW ia;have Eu:=bW eP;have IB:=bW ib;have uU:=bW ib2
 revert uU;revert IB;revert Eu;revert IA
 exact zq.1):p:=k ⟨h⟩
theorem acZ(h:p:=by rw[HA];decide):p:=h
theorem aoz(h:q)(k:eG q→p:=by
 intro zq
 have ke:=auD bl
 have k0:(0:Int)≤(sh bl:Int):=bQ
 have k1:(sh bl:Int)≤63:=auC
 revert k1;revert k0;revert ke
 exact zq.1):p:=k ⟨h⟩
theorem axo(h:q)(k:eG q→p:=by
 intro zq
 refine(CN.out _).mono ?_
 rintro e w4 ⟨rfl,hb4⟩
 have EL:=bW (asB.out.later hb4 bQ)
 have acM:=bW (aoW.out.later hb4 bQ)
 have Ci:=bW (acL.out.later hb4 bQ)
 have yY:=bW (aoX.out.later hb4 bQ)
 have NV:=bW (aoY.out.later hb4 bQ)
 have agN:=bW (ama.out.later hb4 bQ)
 have Dv:=bW (HLr.out.later hb4)
 have z4:wr.heap.size≤w4.heap.size:=hb4.size
 revert z4;revert Dv;revert agN;revert NV;revert yY;revert Ci;revert acM;revert EL;revert hb4;revert w4
 exact zq.1):p:=k ⟨h⟩
theorem aqf(h:p:=by first|exact IA.out|exact Eu.out):p:=h
theorem agu(h:p:=by first|rfl|trivial):p:=h
theorem aAX(h:q)(k:eG q→p:=by
 intro zq
 (rintro e w2 ⟨rfl,hb⟩;obtain⟨hc2,hf2⟩:=jd hb;have hz2:=hb.size;(try simp at hz2);have HW2:=bW (show Below w.heap.size w w2 from Below.trans jZ (hb.mono fD));clear hb;have z20:w.heap.size<w2.heap.size:=bQ;have z21:w.heap.size+1<w2.heap.size:=bQ;have z22:w.heap.size+1+1<w2.heap.size:=bQ)
 revert z22;revert z21;revert z20;revert HW2;revert hz2;revert hf2;revert hc2;revert w2
 exact zq.1):p:=k ⟨h⟩
theorem aAY(h:p:=by repeat' (first|with_reducible exact HW0.out|with_reducible refine Below.alloc ?_ ?_ _|(simp;done)|(simp;omega)|omega)):p:=h
theorem aAZ(h:q)(k:eG q→p:=by
 intro zq
 rintro e w1 ⟨rfl,hb⟩;obtain⟨hc1,hf1⟩:=jd hb;have hz1:=hb.size;(try simp at hz1);have HW1:=bW (show Below w.heap.size w w1 from Below.trans gI (hb.mono fD));clear hb;have z10:w.heap.size<w1.heap.size:=bQ;have z11:w.heap.size+1<w1.heap.size:=bQ;have z12:w.heap.size+1+1<w1.heap.size:=bQ
 revert z12;revert z11;revert z10;revert HW1;revert hz1;revert hf1;revert hc1;revert w1
 exact zq.1):p:=k ⟨h⟩
theorem anA(h:p:=by simp only[hbl];exact hne):p:=h
theorem aqj(h:p:=by first|exact D1.out|exact D2.out):p:=h
theorem aA0(h:p:=by
 rcases h with ⟨-,h,-⟩|⟨-,h,-⟩|⟨-,b,h,-⟩
 ·exact absurd h hn
 ·exact⟨_,_,h⟩
 ·exact⟨_,_,h⟩):p:=h
theorem apD(h:p:=by
 split at h
 · cases h
 · cases h;exact .inl rfl):p:=h
theorem ar5(h:p:=by show K 1=_;rw[Uj.out,HXS.out,←HKK.out];rfl):p:=h
theorem ar2(h:p:=by show K 2=_;rw[Yo.out,HXS.out,←HKK.out];rfl):p:=h
theorem aA1(h:q)(k:eG q→p:=by
 intro zq
 have hr:=adh uF.out hx
 have HR:=bW (show wr.rangeAt g (a*19) (yu x)from fun j u hj=>(BI.out.cell (p:=⟨g,a*19+j,none⟩) hgl).trans (hr j u hj))
 have HB1:=bW ((hB.cell (p:=⟨b,0,none⟩) hbl).trans HB.out)
 revert HB1;revert HR;revert hr
 exact zq.1):p:=k ⟨h⟩
theorem aA4(h:p:=by simp[results,Tryz.results183,go_sem,amS,amT,amU,amV,amW,amX,amY,amZ]):p:=h
theorem aA5(h:p:=by exact(yg.out.trans (((DY wr.heap.size arr.toList 0 w5).below anw (fun k e=>by omega)).mono (Nat.le_refl _)))):p:=h
theorem aIK(h:p:=by
 refine hfree k ok hk hki ?_ hno
 by_cases hjk:j=k
 ·subst hjk;exact hjun
 ·rw[getD_set_ne true hjk]at hun;exact hun):p:=h
theorem aug(h:p:=by simpa using heap_alloc_new ((w.alloc _).alloc _) _):p:=h
theorem aA6(h:p:=by exact((((But.refl w.heap.size _).setCell (.inl rfl) _).setCell (.inl rfl) _).setCell (.inl rfl) _).img HFQ.out bQ bQ):p:=h
theorem aqk(h:p:=by rw[beq_eq_false_iff_ne];exact h2):p:=h
theorem awk(h:q)(k:eG q→p:=by
 intro zq
 have e0:(M.call time n).2=0:=by
  unfold dM.call
  rw[dw bQ,dw h]
 rw[e0]
 have eo:n≠3→(M.call time n).1.out=M.out:=by
  intro h3
  unfold dM.call
  rw[dw bQ,dw h]
  simp only
  rw[dw bQ]
 revert eo;revert e0
 exact zq.1):p:=k ⟨h⟩
theorem amN(h:q)(k:eG q→p:=by
 intro zq
 obtain⟨q,hq⟩:=Int.eq_ofNat_of_zero_le (show 0≤L+16 by omega)
 revert hq;revert q
 exact zq.1):p:=k ⟨h⟩
theorem akt(h:p:=by rw[VO sN];rfl):p:=h
theorem aA7(h:q)(k:eG q→p:=by
 intro zq
 have hfree':∀ k ok,ops[k]?=some ok→k≠i→(listed.setIfInBounds j true).getD k true=false →
   (∀ e∈ok.after,Region.binds md e=true→e.on≠i)→oi.apart ops ok=true:=fun k ok hk hki hun hno=>by
  exact aIK
 revert hfree'
 exact zq.1):p:=k ⟨h⟩
theorem axS(h:p:=by refine⟨rfl,rfl,rfl,by simp[World.setRow],fun k hk ne=>setRow_other _ g k _ (fun e=>ne (congrArg some e))⟩):p:=h
theorem asO(h:p:=by have:=ht.same (kD h.Kz.row b e);revert this;decide):p:=h
theorem aoK(h:q)(k:eG q→p:=by
 intro zq
 have z10:w.heap.size<w1.heap.size:=bQ
 have z11:w.heap.size+1<w1.heap.size:=bQ
 revert z11;revert z10
 exact zq.1):p:=k ⟨h⟩
theorem aA8(h:p:=by
 refine⟨⟨i+1,_,_,_,_,by simp,UM.out⟩,?_⟩
 show n-((i:Int)+1).toNat<n-((i:Int)).toNat
 omega):p:=h
theorem akj(h:p:=by rw[←hR,hA];rfl):p:=h
theorem awW(h:p:=by first|exact Below.trans (aIh w _ _ _ _) (hb.mono fD)|exact Below.trans hwn (hb.mono fD)):p:=h
theorem aA9(h:p:=by
 by_cases h1:0<s.q.length
 ·exact .inr fun h2=>hc ⟨h1,h2⟩
 ·exact .inl (List.eq_nil_of_length_eq_zero bQ)):p:=h
theorem auE(h:p:=by
 refine JI ?_;intro HW0 Ep FC EJ FD FT Gl Gm
 exact ap5):p:=h
theorem aBa(h:p:=by
 rcases h.2 with ⟨h1,h2⟩|⟨g,cap,cur,h1,-⟩
 ·exact⟨none,0,by rw[h1,h2]⟩
 ·exact⟨_,_,h1⟩):p:=h
theorem auF(h:p:=by
 have h1:=hall e he hb
 rw[heq,getD_both hun]at h1
 cases h1):p:=h
theorem aBb(h:q)(k:eG q→p:=by
 intro zq
 have m0:wx.cell? ⟨m,0,none⟩=some (aU num):=IM.cell 0 bQ
 have m17:wx.cell? ⟨m,17,none⟩=some (.slice yG M.out.length cap5):=IM.cell 17 bQ
 have m18:wx.cell? ⟨m,18,none⟩=some (aU st):=IM.cell 18 bQ
 revert m18;revert m17;revert m0
 exact zq.1):p:=k ⟨h⟩
theorem aql(h:p:=by rw[hsz];exact afY rfl):p:=h
theorem auG(h:p:=by unfold Addr.add;split<;>rfl):p:=h
theorem auH(h:p:=by rw[bne_iff_ne];exact beq_eq_false_iff_ne.1 t2):p:=h
theorem anB(h:p:=by rw[h]at hr;cases hr):p:=h
theorem apm(h:p:=by
 repeat' split
 all_goals first|rfl|omega):p:=h
theorem aBd(h:q)(k:eG q→p:=by
 intro zq
 have x0:wr.cell? ⟨w1.heap.size+1,0,none⟩=some (aU 1):=hx0
 have x1:wr.cell? ⟨w1.heap.size+1,1,none⟩=some (aU acc.lo):=hx1
 have x2:wr.cell? ⟨w1.heap.size+1,2,none⟩=some (aU acc.hi):=hx2
 revert x2;revert x1;revert x0
 exact zq.1):p:=k ⟨h⟩
theorem aw3(h:q)(k:eG q→p:=by
 intro zq
 have e:M.asks t=(decide (t.code=16),0):=by
   unfold dM.asks;simp only;rw[dw bQ,dw bQ,dw h2]
 rw[hst,e]
 simp only[ne_eq,not_true_eq_false,if_false,decide_eq_true_eq]
 revert e
 exact zq.1):p:=k ⟨h⟩
theorem ao9(h:p:=by cases hb;exact Nat.le_refl _):p:=h
theorem acT(h:p:=by simp[h0]):p:=h
theorem Yy(h:p:=by simp[h2]):p:=h
theorem axU(h:p:=by
 rw[←hxs,List.getElem?_take]at hj
 split at hj
 ·rw[List.getElem?_drop]at hj;simpa using hj
 ·cases hj):p:=h
theorem aBe(h:q)(k:eG q→p:=by
 intro zq
 have k2:=HI.out.said.cell 2 bQ
 have k3:=HI.out.said.cell 3 bQ
 have r0:=HI.out.res.cell 0 bQ
 have r1:=HI.out.res.cell 1 bQ
 have r2:=HI.out.res.cell 2 bQ
 have r3:=HI.out.res.cell 3 bQ
 have f0:=HI.out.res.free 0 bQ
 have f1:=HI.out.res.free 1 bQ
 have f2:=HI.out.res.free 2 bQ
 have f3:=HI.out.res.free 3 bQ
 revert f3;revert f2;revert f1;revert f0;revert r3;revert r2;revert r1;revert r0;revert k3;revert k2
 exact zq.1):p:=k ⟨h⟩
theorem aBf(h:p:=by simp[Std.Legacy.Range.forIn_eq_forIn_range',List.range',part,Sem.run_bind,h1,h2,h3,Result.andThen_ok]):p:=h
theorem axT(h:p:=by
 have hq0:q=[]:=List.eq_nil_of_length_eq_zero bQ
 subst hq0
 exact run_firstCells_none W.drew 8 0 0 cap):p:=h
theorem aqm(h:p:=by simp[results,Tryz.results115,go_sem, *]):p:=h
theorem aIL(h:p:=by rw[World.cell?_alloc_lt _ _ ⟨5,0,none⟩ eU,World.cell?_alloc_lt _ _ ⟨5,0,none⟩ hlt];exact hg):p:=h
theorem apf(h:p:=by simp[results,Tryz.results107,go_sem, *]):p:=h
theorem apr(h:p:=by simp[results,Tryz.results105,go_sem, *]):p:=h
theorem aBg(h:p:=by show a.block≠w5.heap.size;have hbl:(a.add (pc*6)).block=a.block:=auG;omega):p:=h
theorem aBh(h:p:=by show a.block≠w3.heap.size;have hbl:(a.add (pc*6)).block=a.block:=auG;omega):p:=h
theorem atK(h:p:=by
 show n-((i:Int)+1).toNat<n-(i:Int).toNat
 omega):p:=h
theorem auI(h:p:=by simp[results,Tryz.results146,go_sem, *]):p:=h
theorem ax5(h:q)(k:eG q→p:=by
 intro zq
 have hg2:((w.alloc (.cells #[.pointer (some t)] 236)).alloc (.cells #[.pointer (some ⟨14,236,none⟩),.pointer (some ⟨w.heap.size,0,none⟩),.int .u64 150] 271)).cell? ⟨5,0,none⟩=some (.iface 317 (.agg #[.pointer (some ⟨14,26,none⟩)])):=by
  exact aIL
 revert hg2
 exact zq.1):p:=k ⟨h⟩
theorem aBi(h:p:=by exact⟨_,hh.later (Below.refl _ _).drew,(D5 _ _ _ _).trans (dQ.of (Below.refl _ _).drew)⟩):p:=h
theorem aBj(h:p:=by
 rcases Nat.lt_or_ge x.2 w.heap.size with h|h
 ·exact h
 ·rw[Array.getElem?_eq_none h]at h6;cases h6):p:=h
theorem aBk(h:p:=by
 rw[EH (apY h.1 h.2 bQ bQ)]
 exact⟨by simp only;omega,by simp only;omega⟩):p:=h
theorem aBl(h:p:=by rw[getD_replicate_false]at hl;cases hl):p:=h
theorem aBm(h:p:=by rw[hl,show Nat.min 1 (n+1-i)=1 by simp only[Nat.min_def];split<;>omega]):p:=h
theorem aBn(h:p:=by(repeat' (first|with_reducible exact this|with_reducible refine Img.other ?_ ?_ _|(simp;omega)))):p:=h
theorem aBo(h:q)(k:eG q→p:=by
 intro zq
 have CX:=bW he
 have g1':=JU.cell g1 (show w.heap.size+1≠b by omega)
 have uD:=bW QB
 have BG:=bW JU
 have IU6:=JU.img ac8.out bQ nUb
 have afZ:=bW IU6
 have Ba:=bW (KC.out.but JU hab)
 have zu6:=IU6.lt bQ
 have z6:w5.heap.size≤w6.heap.size:=JU.size
 have y16:w.heap.size+1<w6.heap.size:=bQ
 have yb6:b<w6.heap.size:=bQ
 revert yb6;revert y16;revert z6;revert zu6;revert Ba;revert afZ;revert IU6;revert BG;revert uD;revert g1';revert CX
 exact zq.1):p:=k ⟨h⟩
theorem aeI(h:p:=by simpa using e):p:=h
theorem aqn(h:p:=by rw[Array.length_toList,hs]):p:=h
theorem ax1(h:q)(k:eG q→p:=by
 intro zq
 refine⟨rfl,upd qs k (.slice og' (d.q k++[told]).length cap'),?_⟩
 have hf:dQ (fun b=>(qs k).ownBlock=some b) w W':=(dQ.of LD.out).trans (dQ.grown HG.out (fun b hb=>hb))
 revert hf
 exact zq.1):p:=k ⟨h⟩
theorem asH(h:p:=by rw[hz2];exact growslice_fits bQ bQ):p:=h
theorem aBp(h:q)(k:eG q→p:=by
 intro zq
 have hn':n<l.length:=by simpa using hn
 have htl:(l.take n).length=n:=eU
 have hdl:(l.drop n).length=l.toArray.size-n:=dY
 have inv0:HeadInv .any l.toArray n (Array.replicate l.toArray.size false) :=
  ⟨by simp,fun j oj _ hl=>aBl,fun t _ ht=>getD_in (by simpa using ht) (getD_replicate_false _ _)⟩
 revert inv0;revert hdl;revert htl;revert hn'
 exact zq.1):p:=k ⟨h⟩
theorem aBq(h:p:=by
 rcases h.2 with ⟨hv,_⟩|⟨g',cap',cur,hv,hb,hg,hc,hm,hs,hx⟩
 ·cases hv
 ·exact aAd):p:=h
theorem ayB(h:p:=by
 unfold iD
 simp only
 by_cases h0:k=0
 ·rw[dB h0,dB h0]
 ·rw[dw h0,dw h0,dB bQ]):p:=h
theorem atu(h:p:=by simp[results,Tryz.results206,go_sem]):p:=h
theorem YO(h:p:=by simp[h3]):p:=h
theorem auJ(h:p:=by simp[results,Tryz.results176,go_sem]):p:=h
theorem al3(h:q)(k:eG q→p:=by
 intro zq
 have t0:(er==0)=false:=aul
 have t1:(er !=0)=true:=ap8
 revert t1;revert t0
 exact zq.1):p:=k ⟨h⟩
theorem auK(h:p:=by simp[results,Tryz.results21,go_sem]):p:=h
theorem auL(h:p:=by rw[harr];exact aBr _ _ _ _ _ _):p:=h
theorem aIM(h:p:=by show pc+1+o<n;omega):p:=h
theorem aBs(h:p:=by rw[List.length_append,List.length_take,hcl,List.length_drop,hxl];omega):p:=h
theorem aBt(h:p:=by exact HB2.out.trans ((DY w.heap.size _ 0 w2).below HB2.out.size (fun k e=>by omega))):p:=h
theorem aBu(h:q)(k:eG q→p:=by
 intro zq
 have aa3:=bW (HFs.out.row af0 fun b hb (e:b=w.heap.size+1+1)=>by have:=(af0.lt b hb).1;omega)
 have m0q:wq.cell? ⟨m,0,none⟩=some (aU num):=HFs.out.cell m0' (by simpa using hmS)
 revert m0q;revert aa3
 exact zq.1):p:=k ⟨h⟩
theorem aku(h:p:=by unfold u;omega):p:=h
theorem asy(h:p:=by
 refine Img.of_cells h iC fun j hj=>?_
 exact aur):p:=h
theorem aqo(h:p:=by unfold B.Has at hy;omega):p:=h
theorem ayf(h:p:=by
 obtain⟨h1,h2,h3⟩:=h.iQ.apb hk (dQ.refl _ wr) hq (.inl hown)
 exact h.step h2 h1 h3):p:=h
theorem aqr(h:p:=by unfold In64 at eP;omega):p:=h
theorem atO(h:p:=by first|(simp;done)|(simp;omega)):p:=h
theorem aBv(h:p:=by
 have h2:=aIN hpos h1
 have h3:=auN hh
 unfold In64 at h3
 rw[EH aaq]
 omega):p:=h
theorem azG(h:p:=by
 intro r
 by_cases e:r=i
 · subst e;rw[upd_same];exact hv
 · rw[fB e];exact h r):p:=h
theorem azz(h:q)(k:eG q→p:=by
 intro zq
 have hpl:pl.length=c.l.length:=aqe
 obtain⟨x,hx⟩:∃ x,pl[hfind c.l id]?=some x:=⟨_,List.getElem?_eq_getElem bQ⟩
 have D6:=bW (fun W (hb:Below w.heap.size w W)=>aBw (h.later hb) h8 id hx)
 refine apT ?_;intro C1
 revert C1;revert D6;revert hx;revert x;revert hpl
 exact zq.1):p:=k ⟨h⟩
theorem aw4(h:p:=by
 rw[dw (by simp[l0]),dw acT]
 exact⟨_,_,rfl,.inl ⟨_,rfl,hR.gu _ lv⟩⟩):p:=h
theorem aBx(h:p:=by
 rename_i x ho
 rw[ho]at h3 ⊢
 simp only[Sem.run_pure,Oper.quietUpon]at h3 ⊢
 rw[h3.2]):p:=h
theorem azp(h:p:=by unfold at_ Step.leads;rw[dw (not_not_intro hw),dw bQ,dw bQ]):p:=h
theorem auO(h:p:=by first|exact OA.out|exact OB.out):p:=h
theorem aBy(h:p:=by simp only[List.length_append,List.length_cons,List.length_take,List.length_drop];omega):p:=h
theorem aBz(h:p:=by have:=congrArg List.length hc.l;rw[List.length_map]at this;omega):p:=h
theorem apG(h:p:=by unfold In64 at ib;omega):p:=h
theorem apH(h:p:=by unfold In64 at ia;omega):p:=h
theorem aBA(h:p:=by exact(h.queue j hj).fG hfs (fun b hb e=>((h.queue j hj).typed b hb).ne h.typed dS e)):p:=h
theorem aqs(h:p:=by
 rw[EX.out]at this ⊢
 exact this):p:=h
theorem ac2(h:p:=by simp[hv]):p:=h
theorem ate(h:p:=by unfold at_;rw[dB hw];exact hw):p:=h
theorem aBB(h:q)(k:eG q→p:=by
 intro zq
 have hl:dn++((s.one e r).done.map fun t=>((k:Int),t))=dn++(s.done.map fun t=>((k:Int),t))++[((k:Int),sd)]:=by unfold P.HS.one;rw[HX.out];simp
 rw[hl]
 revert hl
 exact zq.1):p:=k ⟨h⟩
theorem auP(h:q)(k:eG q→p:=by
 intro zq
 have h1:(a:Int)<n:=bQ
 obtain⟨y,hy⟩:∃ y,pl[a]?=some y:=⟨_,List.getElem?_eq_getElem ac3⟩
 revert hy;revert y;revert h1
 exact zq.1):p:=k ⟨h⟩
theorem apB(h:q)(k:eG q→p:=by
 intro zq
 refine ati ?_;intro w1 hW hb1 LQ
 have HB1:=bW hb1
 have Ny:=bW LQ
 clear hW hb1 LQ
 revert Ny;revert HB1;revert w1
 exact zq.1):p:=k ⟨h⟩
theorem asU(h:p:=by unfold qOp;simp only[h0];exact h):p:=h
theorem auQ(h:p:=by
 rw[Array.setIfInBounds_comm _ _ hji]
 exact h3.2):p:=h
theorem axC(h:q)(k:eG q→p:=by
 intro zq
 have hXs:Y=some (s.narrowed ⟨c,d,sr,r,o,nn⟩ ⟨pl,ph⟩ ⟨ql,qh⟩,((pc+1+o:Nat):Int)):=by
  rw[←HY2.out]
  exact az8
 have HXS:=bW hXs
 clear hXs
 revert HXS
 exact zq.1):p:=k ⟨h⟩
theorem axg(h:q)(k:eG q→p:=by
 intro zq
 obtain⟨K,hK⟩:∃ K:Nat→VR,K=fun j=>if j=0 then((0,-1),k)else if j=1 then rU (iO S f) X k else rU (iO S f) Y (rU (iO S f) X k).2:=⟨_,rfl⟩
 revert hK;revert K
 exact zq.1):p:=k ⟨h⟩
theorem aqt(h:p:=by exact .inr ⟨by decide,HST.out⟩):p:=h
theorem atT(h:p:=by rw[List.length_take,hcl];omega):p:=h
theorem azv(h:p:=by simp[results,Tryz.results35,go_sem,b0,d0,d1,z10];try omega):p:=h
theorem axr(h:q)(k:eG q→p:=by
 intro zq
 have zu:=IU.lt bQ
 have HU:=bW IU
 have YS:=bW (Q5.out.later hb6 bQ)
 have YT:=bW (agO.out.later hb6 bQ)
 have NY:=bW (Ul.out.later hb6 bQ)
 have N7:=bW (Es.out.later hb6 bQ)
 have YU:=bW (Tc.out.later hb6 bQ)
 have YV:=bW (agP.out.later hb6 bQ)
 have Dx:=bW (Ql.out.later hb6)
 revert Dx;revert YV;revert YU;revert N7;revert NY;revert YT;revert YS;revert HU;revert zu
 exact zq.1):p:=k ⟨h⟩
theorem aBC(h:p:=by have:=block_lt_of_cell (hs 0 bQ).1;simpa[Addr.add]using this):p:=h
theorem aoQ(h:p:=by simp only at b;omega):p:=h
theorem amK(h:p:=by subst h0;rw[upd_same];rfl):p:=h
theorem as5(h:p:=by
 split at h
 · cases h
 · split at h<;>cases h):p:=h
theorem aBD(h:p:=by exact Below.grown (HB.out.alloc Gt _) Zg eU (fun b hb=>(uF.out.lt b hb).1)):p:=h
theorem axe(h:p:=by exact((But.refl (w.heap.size+1+1) w2).setCell (.inl rfl) _).setCell (.inl rfl) _):p:=h
theorem aBE(h:p:=by simp only[List.length_append,List.length_take,hxl,hl];omega):p:=h
theorem auR(h:p:=by rw[beq_eq_false_iff_ne];exact h):p:=h
theorem aIO(h:p:=by show pc+1<n;omega):p:=h
theorem alc(h:p:=by have:=adw b;omega):p:=h
theorem ay3(h:p:=by rw[dB bQ,show(r*3+k)/3=r by omega,show(r*3+k)%3=k by omega]):p:=h
theorem aBF(h:p:=by
 rw[htl,show n+(l.toArray.size-n)=l.toArray.size by omega]at this
 exact this):p:=h
theorem aoT(h:q)(k:eG q→p:=by
 intro zq
 refine aIC ?_;intro s1 s2
 have Hf:Hid (pc+1<n):=aIO
 have Lh:Hid (pc+1+o<n):=aIM
 revert Lh;revert Hf;revert s2;revert s1
 exact zq.1):p:=k ⟨h⟩
theorem aye(h:p:=by
 rcases ho b hb with e|e
 ·exact h.own b e
 ·exact .inr (Nat.le_trans h.fG.size e)):p:=h
theorem axv(h:q)(k:eG q→p:=by
 intro zq
 have hXs:X=some (s.narrowed ⟨c,d,sr,r,o,nn⟩ ⟨pl,ph⟩ ⟨ql,qh⟩,((pc+1:Nat):Int)):=by
  rw[←HX2.out]
  exact az8
 have HXS:=bW hXs
 clear hXs
 revert HXS
 exact zq.1):p:=k ⟨h⟩
theorem azR(h:p:=by have:=(List.getElem?_eq_some_iff.1 hj).1;rwa [Gq]at this):p:=h
theorem aw9(h:p:=by simpa using heap_alloc_new (World.alloc (World.alloc w _) _) _):p:=h
theorem aBG(h:p:=by rw[←KG.out.2,List.length_take];have:=KG.out.1;simp at this ⊢;omega):p:=h
theorem apq(h:p:=by have:=HH.out;omega):p:=h
theorem aqu(h:p:=by rw[←hR,EZ];rfl):p:=h
theorem aBH(h:p:=by have:=adP a;omega):p:=h
theorem aBI(h:p:=by have:=adP b;omega):p:=h
theorem aoE(h:q)(k:eG q→p:=by
 intro zq
 have b1:=VQ a
 have b2:=VQ b
 have b3:u a≤18446744073709551615:=aBH
 have b4:u b≤18446744073709551615:=aBI
 revert b4;revert b3;revert b2;revert b1
 exact zq.1):p:=k ⟨h⟩
theorem aPo(h:q)(k:eG q→p:=by
 intro zq
 have b2:=VQ b
 have b3:u a≤18446744073709551615:=aBH
 have b4:u b≤18446744073709551615:=aBI
 have b6:sh b≤63:=alc
 revert b6;revert b4;revert b3;revert b2
 exact zq.1):p:=k ⟨h⟩
theorem auS(h:p:=by
 split
 ·rfl
 split
 ·rw[fB bQ]
 ·rfl):p:=h
theorem auT(h:p:=by rw[←hch.l,List.length_map]):p:=h
theorem aBJ(h:p:=by exact((UN.out.setCell (.inl rfl) _).setCell (.inl rfl) _).setCell (.inl rfl) _):p:=h
theorem aw5(h:p:=by
 rw[dw (by simp[l0]),dw acT]
 exact⟨_,_,rfl,.inl ⟨_,rfl,lv⟩⟩):p:=h
theorem asQ(h:p:=by unfold Region.wanted;rw[hgd]):p:=h
theorem aeJ(h:p:=by simp[he]):p:=h
theorem auU(h:p:=by unfold HC.attach;rw[dB hv]):p:=h
theorem aBK(h:p:=by rw[hgrow.frozen_far _ eU NB.out];simp[go_sem,f1,zb]):p:=h
theorem agL(h:p:=by rw[hK];rfl):p:=h
theorem azF(h:p:=by simp[results,Tryz.results25,go_sem,b0,b1,g0,g1,z2]):p:=h
theorem aBL(h:p:=by simp[results,Tryz.results20,go_sem,b0,b1,g0,g1,z2]):p:=h
theorem amJ(h:q)(k:eG q→p:=by
 intro zq
 rw[fB h2,fB h1,fB h0]
 exact zq.1):p:=k ⟨h⟩
theorem aBM(h:p:=by
 rcases hr.2 with ⟨h0,h1⟩|⟨g,cap',cur,h0,_⟩
 ·omega
 ·exact aj9):p:=h
theorem af5(h:p:=by simp[hx]):p:=h
theorem auV(h:p:=by rw[hf,Nat.succ_mul];omega):p:=h
theorem ax7(h:p:=by obtain⟨og,cap,rfl,_⟩:=h;exact⟨og,cap,rfl⟩):p:=h
theorem auW(h:p:=by show(0:Int)≤4000;omega):p:=h
theorem auX(h:q)(k:eG q→p:=by
 intro zq
 have t5:=mV (show letter ka≠110 from fun e=>by have:=(DT DZ).1 e;omega)
 revert t5
 exact zq.1):p:=k ⟨h⟩
theorem axp(h:p:=by exact Dv.out.later (((Below.refl _ _).alloc (Nat.le_refl _) _).alloc dY _)):p:=h
theorem axq(h:q)(k:eG q→p:=by
 intro zq
 have Q5:=bW (EL.out.later hb5 bQ)
 have agO:=bW (acM.out.later hb5 bQ)
 have Ul:=bW (Ci.out.later hb5 bQ)
 have Es:=bW (yY.out.later hb5 bQ)
 have Tc:=bW (NV.out.later hb5 bQ)
 have agP:=bW (agN.out.later hb5 bQ)
 have Ql:=bW (Dv.out.later hb5)
 revert Ql;revert agP;revert Tc;revert Es;revert Ul;revert agO;revert Q5
 exact zq.1):p:=k ⟨h⟩
theorem axY(h:p:=by obtain⟨c,hc⟩:=h.typed;exact⟨c,hDf.trans hc⟩):p:=h
theorem auY(h:p:=by rw[List.length_take];omega):p:=h
theorem auZ(h:p:=by rw[Array.length_toList,hcs]):p:=h
theorem aBN(h:p:=by rw[hgrow.cell_far _ eU NB.out];simp[go_sem,o1,zb]):p:=h
theorem aBO(h:p:=by rw[hgrow.cell_far _ eU NW.out];simp[go_sem,x1,z1]):p:=h
theorem amD(h:p:=by simpa using hi):p:=h
theorem aBP(h:p:=by exact anC hap hsel hz hL f _ _ M w (hw.step (Below.refl _ _) hna) h2):p:=h
theorem amF(h:p:=by simpa using hr):p:=h
theorem aAl(h:p:=by unfold af8;simp only;rw[dw bQ,dw bQ];rfl):p:=h
theorem asN(h:p:=by rw[fB e,fB e,fB e]):p:=h
theorem aBQ(h:q)(k:eG q→p:=by
 intro zq
 (have rQ:w1.cell? ⟨w.heap.size,0,none⟩=some (aU 4):=fH;have uM:w1.frozen? ⟨w.heap.size,0,none⟩=false:=fO;have uN:w1.cell? ⟨w.heap.size,1,none⟩=some (aU n):=fH;have uO:w1.frozen? ⟨w.heap.size,1,none⟩=false:=fO;have yU:w1.cell? ⟨w.heap.size,2,none⟩=some (aU cell):=fH;have yX:w1.frozen? ⟨w.heap.size,2,none⟩=false:=fO)
 revert yX;revert yU;revert uO;revert uN;revert uM;revert rQ
 exact zq.1):p:=k ⟨h⟩
theorem awJ(h:q)(k:eG q→p:=by
 intro zq
 have sz:0<n→a.block<w.heap.size:=fun h=>block_lt_of_cell (a:=⟨a.block,a.off+1,none⟩) (by have:=(hs 0 h).2.1;simpa[Addr.add]using this)
 revert sz
 exact zq.1):p:=k ⟨h⟩
theorem axf(h:q)(k:eG q→p:=by
 intro zq
 obtain⟨X,hX⟩:∃ X,s.way ⟨c,d,sr,r,o,nn⟩ (NU c) ((pc:Int)+1)=X:=⟨_,rfl⟩
 obtain⟨Y,hY⟩:∃ Y,s.way ⟨c,d,sr,r,o,nn⟩ c ((pc:Int)+1+o)=Y:=⟨_,rfl⟩
 revert hY;revert Y;revert hX;revert X
 exact zq.1):p:=k ⟨h⟩
theorem azd(h:q)(k:eG q→p:=by
 intro zq
 have zo:wo.heap.size<w2.heap.size:=wL.lt bQ
 have u0:=wL.cell 0 bQ;have u1:=wL.cell 1 bQ;have u2:=wL.cell 2 bQ
 simp only[amL,ajg,ajh]at u0 u1 u2
 have v1:=wL.free 1 bQ;have v2:=wL.free 2 bQ
 revert v2;revert v1;revert u2;revert u1;revert u0;revert zo
 exact zq.1):p:=k ⟨h⟩
theorem au0(h:p:=by simpa using (hl 0 dY).symm):p:=h
theorem aBR(h:p:=by show zD _ _ _=_;unfold zD;rw[dB h0]):p:=h
theorem aBS(h:p:=by exact(h.queue k hk).fG hf (fun b hb=>hM b (.inr ⟨k,hk,.inr hb⟩))):p:=h
theorem amu(h:q)(k:eG q→p:=by
 intro zq
 refine(C.out _ (HG.out.later gI)).mono ?_
 exact zq.1):p:=k ⟨h⟩
theorem axx(h:q)(k:eG q→p:=by
 intro zq
 have z7:w6.heap.size≤w7.heap.size:=BU.size
 have uG:Hid (kG (s.narrowed ⟨c,d,sr,false,o,nn⟩ ⟨pl,ph⟩ ⟨ql,qh⟩)):=HS.out.narrowed _ Lu.out.1 Lu.out.2
 revert uG;revert z7
 exact zq.1):p:=k ⟨h⟩
end Go.Proofs
