/- Closed pieces of proofs that come again and again, each a proposition's own proof. -/
import Derived.Test.YtglilddlhibogaaGreatDoorZZ0
import Derived.Deep.RegionHeld3
import Derived.IntWalk
set_option maxRecDepth 100000
namespace Go.Proofs
variable{p q:Prop}
theorem awT(h:p:=by
 have HW0:=bW (Below.refl w.heap.size w);have Ep:4<w.heap.size+1:=bQ;have FC:4<w.heap.size+1+1:=bQ;have EJ:4<w.heap.size+1+1+1:=bQ;have FD:4<w.heap.size+1+1+1+1:=bQ;have FT:4<w.heap.size+1+1+1+1+1:=bQ;have Gl:4<w.heap.size+1+1+1+1+1+1:=bQ;have Gm:4<w.heap.size+1+1+1+1+1+1+1:=bQ
 have q0:=acF s0 t0 s2 t2;have q1:=acF s0 t0 s3 t3;have q2:=acF s1 t1 s2 t2;have q3:=acF s1 t1 s3 t3
 go_enter Tryz.func147,Tryz.ntmps147
 go_wp2_with fail
 refine wp_loop_rounds 5 ?_
 rw[rounds_succ]
 go_wp2_with (rw[rounds_succ])
 generalize e0:al*bl=P0 at *
 generalize e1:al*bh=P1 at *
 generalize e2:ah*bl=P2 at *
 generalize e3:ah*bh=P3 at *
 have E0:=bW e0;have E1:=bW e1;have E2:=bW e2;have E3:=bW e3
 clear e0 e1 e2 e3 q0 q1 q2 q3 s0 t0 s1 t1 s2 t2 s3 t3
 refine(VW _ _).mono ?_
 (rintro e w1 ⟨rfl,hb⟩;obtain⟨hc1,hf1⟩:=jd hb;have hz1:=hb.size;(try simp at hz1);have HW1:=bW (show Below w.heap.size w w1 from Below.trans gI (hb.mono fD));clear hb;have aPb:4<w1.heap.size:=bQ;have aPc:4<w1.heap.size+1:=bQ;have aPd:4<w1.heap.size+1+1:=bQ;have aPe:4<w1.heap.size+1+1+1:=bQ;have aPf:4<w1.heap.size+1+1+1+1:=bQ;have aPg:4<w1.heap.size+1+1+1+1+1:=bQ;have aPh:4<w1.heap.size+1+1+1+1+1+1:=bQ;have z10:w.heap.size<w1.heap.size:=bQ;have z11:w.heap.size+1<w1.heap.size:=bQ;have z12:w.heap.size+1+1<w1.heap.size:=bQ;have z13:w.heap.size+1+1+1<w1.heap.size:=bQ;have NT:w.heap.size+1+1+1+1<w1.heap.size:=bQ)
 have OE:w1.cell? ⟨w.heap.size,0,none⟩=some (aU (al)):=xQ
 have V7:w1.frozen? ⟨w.heap.size,0,none⟩=false:=xW
 have OG:w1.cell? ⟨w.heap.size,1,none⟩=some (aU (ah)):=xQ
 have V9:w1.frozen? ⟨w.heap.size,1,none⟩=false:=xW
 have OH:w1.cell? ⟨w.heap.size+1,0,none⟩=some (aU (bl)):=xQ
 have Wn:w1.frozen? ⟨w.heap.size+1,0,none⟩=false:=xW
 have OI:w1.cell? ⟨w.heap.size+1,1,none⟩=some (aU (bh)):=xQ
 have Wp:w1.frozen? ⟨w.heap.size+1,1,none⟩=false:=xW
 have Rt:w1.cell? ⟨w.heap.size+1+1,0,none⟩=some (aU (0)):=xQ
 have Yl:w1.frozen? ⟨w.heap.size+1+1,0,none⟩=false:=xW
 have Ru:w1.cell? ⟨w.heap.size+1+1,1,none⟩=some (aU (0)):=xQ
 have Ym:w1.frozen? ⟨w.heap.size+1+1,1,none⟩=false:=xW
 have OJ:w1.cell? ⟨w.heap.size+1+1+1,0,none⟩=some (aU (al)):=xQ
 have Wq:w1.frozen? ⟨w.heap.size+1+1+1,0,none⟩=false:=xW
 have OL:w1.cell? ⟨w.heap.size+1+1+1,1,none⟩=some (aU (ah)):=xQ
 have Ws:w1.frozen? ⟨w.heap.size+1+1+1,1,none⟩=false:=xW
 have aFM:w1.cell? ⟨w.heap.size+1+1+1,2,none⟩=some (aU (bl)):=xQ
 have aFN:w1.frozen? ⟨w.heap.size+1+1+1,2,none⟩=false:=xW
 have aFO:w1.cell? ⟨w.heap.size+1+1+1,3,none⟩=some (aU (bh)):=xQ
 have aFP:w1.frozen? ⟨w.heap.size+1+1+1,3,none⟩=false:=xW
 have aPi:w1.cell? ⟨w.heap.size+1+1+1+1,0,none⟩=some (aU (P0)):=xQ
 have aFQ:w1.frozen? ⟨w.heap.size+1+1+1+1,0,none⟩=false:=xW
 have aPj:w1.cell? ⟨w.heap.size+1+1+1+1,1,none⟩=some (aU (P1)):=xQ
 have aFR:w1.frozen? ⟨w.heap.size+1+1+1+1,1,none⟩=false:=xW
 have aPk:w1.cell? ⟨w.heap.size+1+1+1+1,2,none⟩=some (aU (P2)):=xQ
 have aFS:w1.frozen? ⟨w.heap.size+1+1+1+1,2,none⟩=false:=xW
 have aPl:w1.cell? ⟨w.heap.size+1+1+1+1,3,none⟩=some (aU (P3)):=xQ
 have aFT:w1.frozen? ⟨w.heap.size+1+1+1+1,3,none⟩=false:=xW
 clear hc1 hf1
 clear OE V7 OG V9 OH Wn OI Wp OJ OL aFM aFO Wq Ws aFN aFP aFQ aFR aFS aFT
 go_wp2_with fail
 go_loopw [152] (fun i wr=>∃ k:Nat,k≤4∧i=aU k∧wr.cell? ⟨w1.heap.size,0,none⟩=some (aU (KZ P0 P1 P2 P3 k))∧wr.cell? ⟨w1.heap.size,1,none⟩=some (aU (Lc P0 P1 P2 P3 k))∧wr.frozen? ⟨w1.heap.size,0,none⟩=false∧wr.frozen? ⟨w1.heap.size,1,none⟩=false∧wr.cell? ⟨w.heap.size+1+1,0,none⟩=some (aU 0)∧wr.frozen? ⟨w.heap.size+1+1,0,none⟩=false∧wr.cell? ⟨w.heap.size+1+1,1,none⟩=some (aU 0)∧wr.frozen? ⟨w.heap.size+1+1,1,none⟩=false∧wr.cell? ⟨w.heap.size+1+1+1+1,0,none⟩=some (aU P0)∧wr.cell? ⟨w.heap.size+1+1+1+1,1,none⟩=some (aU P1)∧wr.cell? ⟨w.heap.size+1+1+1+1,2,none⟩=some (aU P2)∧wr.cell? ⟨w.heap.size+1+1+1+1,3,none⟩=some (aU P3)∧w.heap.size+1+1+1+1<wr.heap.size∧w1.heap.size<wr.heap.size∧Below w.heap.size w wr) (fun i _=>4-(intOf i).toNat)
 case atStart=>exact⟨0,by omega,rfl,Rw,Rw,Rw,Rw,Rw,Rw,Rw,Rw,Rw,Rw,Rw,Rw,Rw,Rw,jZ⟩
 case round =>
  obtain⟨k,hk,rfl,n0,n1,n2,n3,n4,n5,n6,n7,m0,m1,m2,m3,n8,n9,BI⟩:=hrel
  have HWV:=bW BI
  clear BI
  have n11:w.heap.size+1+1<wr.heap.size:=bQ
  have n10:¬w1.heap.size=wr.heap.size:=bQ
  by_cases h:k<4
  ·have h4:k=0∨k=1∨k=2∨k=3:=bQ
   clear h hk
   rcases h4 with rfl|rfl|rfl|rfl
   ·simp only[KZ,Lc]at n0 n1
    go_wp2_with fail
    go_region_with (first|(go_at_call 73;refine(VJ _ _).mono ?_;rintro e w2 ⟨rfl,rfl⟩)|(go_at_call 75;refine(QO _ _ _ _ _).mono ?_;rintro e w2 ⟨rfl,hb⟩;obtain⟨hc,hf⟩:=jd hb;have hz:=hb.size;(try simp at hz);have y2:w.heap.size+1+1<w2.heap.size:=bQ;have y4:w.heap.size+1+1+1+1<w2.heap.size:=bQ;have yc:w1.heap.size<w2.heap.size:=bQ;have hwn:Below w.heap.size w w2:=Below.trans Ou (hb.mono fD);clear hb))
    all_goals
     have a0:w2.cell? ⟨w1.heap.size,0,none⟩=some (aU (P0)):=gK
     have JV:w2.frozen? ⟨w1.heap.size,0,none⟩=false:=lY
     have a1:w2.cell? ⟨w1.heap.size,1,none⟩=some (aU (P0)):=gK
     have Gz:w2.frozen? ⟨w1.heap.size,1,none⟩=false:=lY
     have b0:w2.cell? ⟨w.heap.size+1+1,0,none⟩=some (aU 0):=gK
     have GH:w2.frozen? ⟨w.heap.size+1+1,0,none⟩=false:=lY
     have b1:w2.cell? ⟨w.heap.size+1+1,1,none⟩=some (aU 0):=gK
     have GI:w2.frozen? ⟨w.heap.size+1+1,1,none⟩=false:=lY
     have d0:w2.cell? ⟨w.heap.size+1+1+1+1,0,none⟩=some (aU P0):=gK
     have d1:w2.cell? ⟨w.heap.size+1+1+1+1,1,none⟩=some (aU P1):=gK
     have d2:w2.cell? ⟨w.heap.size+1+1+1+1,2,none⟩=some (aU P2):=gK
     have d3:w2.cell? ⟨w.heap.size+1+1+1+1,3,none⟩=some (aU P3):=gK
     clear hc hf
     go_wp2_with fail
     go_roundw
     case rel=>exact⟨1,by omega,by first|rfl|go_num,eF,eF,eF,eF,eF,eF,eF,eF,eF,eF,eF,eF,eF,eF,by repeat' (first|with_reducible exact hwn|with_reducible refine Below.drew ?_|with_reducible refine Below.alloc ?_ ?_ _|with_reducible refine Below.setCell ?_ ?_ _|(simp;done)|(simp;omega)|omega)⟩
     case measure=>simp[intOf]
   ·simp only[KZ,Lc]at n0 n1
    go_wp2_with fail
    go_region_with (first|(go_at_call 73;refine(VJ _ _).mono ?_;rintro e w2 ⟨rfl,rfl⟩)|(go_at_call 75;refine(QO _ _ _ _ _).mono ?_;rintro e w2 ⟨rfl,hb⟩;obtain⟨hc,hf⟩:=jd hb;have hz:=hb.size;(try simp at hz);have y2:w.heap.size+1+1<w2.heap.size:=bQ;have y4:w.heap.size+1+1+1+1<w2.heap.size:=bQ;have yc:w1.heap.size<w2.heap.size:=bQ;have hwn:Below w.heap.size w w2:=Below.trans Ou (hb.mono fD);clear hb))
    all_goals
     have a0:w2.cell? ⟨w1.heap.size,0,none⟩=some (aU (P0)):=gK
     have JV:w2.frozen? ⟨w1.heap.size,0,none⟩=false:=lY
     have a1:w2.cell? ⟨w1.heap.size,1,none⟩=some (aU (P0)):=gK
     have Gz:w2.frozen? ⟨w1.heap.size,1,none⟩=false:=lY
     have b0:w2.cell? ⟨w.heap.size+1+1,0,none⟩=some (aU 0):=gK
     have GH:w2.frozen? ⟨w.heap.size+1+1,0,none⟩=false:=lY
     have b1:w2.cell? ⟨w.heap.size+1+1,1,none⟩=some (aU 0):=gK
     have GI:w2.frozen? ⟨w.heap.size+1+1,1,none⟩=false:=lY
     have d0:w2.cell? ⟨w.heap.size+1+1+1+1,0,none⟩=some (aU P0):=gK
     have d1:w2.cell? ⟨w.heap.size+1+1+1+1,1,none⟩=some (aU P1):=gK
     have d2:w2.cell? ⟨w.heap.size+1+1+1+1,2,none⟩=some (aU P2):=gK
     have d3:w2.cell? ⟨w.heap.size+1+1+1+1,3,none⟩=some (aU P3):=gK
     clear hc hf
     go_wp2_with fail
     go_roundw
     case rel=>exact⟨2,by omega,by first|rfl|go_num,eF,eF,eF,eF,eF,eF,eF,eF,eF,eF,eF,eF,eF,eF,by repeat' (first|with_reducible exact hwn|with_reducible refine Below.drew ?_|with_reducible refine Below.alloc ?_ ?_ _|with_reducible refine Below.setCell ?_ ?_ _|(simp;done)|(simp;omega)|omega)⟩
     case measure=>simp[intOf]
   ·simp only[KZ,Lc]at n0 n1
    go_wp2_with fail
    go_region_with (first|(go_at_call 73;refine(VJ _ _).mono ?_;rintro e w2 ⟨rfl,rfl⟩)|(go_at_call 75;refine(QO _ _ _ _ _).mono ?_;rintro e w2 ⟨rfl,hb⟩;obtain⟨hc,hf⟩:=jd hb;have hz:=hb.size;(try simp at hz);have y2:w.heap.size+1+1<w2.heap.size:=bQ;have y4:w.heap.size+1+1+1+1<w2.heap.size:=bQ;have yc:w1.heap.size<w2.heap.size:=bQ;have hwn:Below w.heap.size w w2:=Below.trans Ou (hb.mono fD);clear hb))
    all_goals
     have a0:w2.cell? ⟨w1.heap.size,0,none⟩=some (aU (min (P0) (P1))):=gK
     have JV:w2.frozen? ⟨w1.heap.size,0,none⟩=false:=lY
     have a1:w2.cell? ⟨w1.heap.size,1,none⟩=some (aU (max (P0) (P1))):=gK
     have Gz:w2.frozen? ⟨w1.heap.size,1,none⟩=false:=lY
     have b0:w2.cell? ⟨w.heap.size+1+1,0,none⟩=some (aU 0):=gK
     have GH:w2.frozen? ⟨w.heap.size+1+1,0,none⟩=false:=lY
     have b1:w2.cell? ⟨w.heap.size+1+1,1,none⟩=some (aU 0):=gK
     have GI:w2.frozen? ⟨w.heap.size+1+1,1,none⟩=false:=lY
     have d0:w2.cell? ⟨w.heap.size+1+1+1+1,0,none⟩=some (aU P0):=gK
     have d1:w2.cell? ⟨w.heap.size+1+1+1+1,1,none⟩=some (aU P1):=gK
     have d2:w2.cell? ⟨w.heap.size+1+1+1+1,2,none⟩=some (aU P2):=gK
     have d3:w2.cell? ⟨w.heap.size+1+1+1+1,3,none⟩=some (aU P3):=gK
     clear hc hf
     go_wp2_with fail
     go_roundw
     case rel=>exact⟨3,by omega,by first|rfl|go_num,eF,eF,eF,eF,eF,eF,eF,eF,eF,eF,eF,eF,eF,eF,by repeat' (first|with_reducible exact hwn|with_reducible refine Below.drew ?_|with_reducible refine Below.alloc ?_ ?_ _|with_reducible refine Below.setCell ?_ ?_ _|(simp;done)|(simp;omega)|omega)⟩
     case measure=>simp[intOf]
   ·simp only[KZ,Lc]at n0 n1
    go_wp2_with fail
    go_region_with (first|(go_at_call 73;refine(VJ _ _).mono ?_;rintro e w2 ⟨rfl,rfl⟩)|(go_at_call 75;refine(QO _ _ _ _ _).mono ?_;rintro e w2 ⟨rfl,hb⟩;obtain⟨hc,hf⟩:=jd hb;have hz:=hb.size;(try simp at hz);have y2:w.heap.size+1+1<w2.heap.size:=bQ;have y4:w.heap.size+1+1+1+1<w2.heap.size:=bQ;have yc:w1.heap.size<w2.heap.size:=bQ;have hwn:Below w.heap.size w w2:=Below.trans Ou (hb.mono fD);clear hb))
    all_goals
     have a0:w2.cell? ⟨w1.heap.size,0,none⟩=some (aU (min (P0) (min (P1) (P2)))):=gK
     have JV:w2.frozen? ⟨w1.heap.size,0,none⟩=false:=lY
     have a1:w2.cell? ⟨w1.heap.size,1,none⟩=some (aU (max (P0) (max (P1) (P2)))):=gK
     have Gz:w2.frozen? ⟨w1.heap.size,1,none⟩=false:=lY
     have b0:w2.cell? ⟨w.heap.size+1+1,0,none⟩=some (aU 0):=gK
     have GH:w2.frozen? ⟨w.heap.size+1+1,0,none⟩=false:=lY
     have b1:w2.cell? ⟨w.heap.size+1+1,1,none⟩=some (aU 0):=gK
     have GI:w2.frozen? ⟨w.heap.size+1+1,1,none⟩=false:=lY
     have d0:w2.cell? ⟨w.heap.size+1+1+1+1,0,none⟩=some (aU P0):=gK
     have d1:w2.cell? ⟨w.heap.size+1+1+1+1,1,none⟩=some (aU P1):=gK
     have d2:w2.cell? ⟨w.heap.size+1+1+1+1,2,none⟩=some (aU P2):=gK
     have d3:w2.cell? ⟨w.heap.size+1+1+1+1,3,none⟩=some (aU P3):=gK
     clear hc hf
     go_wp2_with fail
     go_roundw
     case rel=>exact⟨4,by omega,by first|rfl|go_num,eF,eF,eF,eF,eF,eF,eF,eF,eF,eF,eF,eF,eF,eF,by repeat' (first|with_reducible exact hwn|with_reducible refine Below.drew ?_|with_reducible refine Below.alloc ?_ ?_ _|with_reducible refine Below.setCell ?_ ?_ _|(simp;done)|(simp;omega)|omega)⟩
     case measure=>simp[intOf]
  ·obtain rfl:k=4:=bQ
   simp only[KZ,Lc]at n0 n1
   clear h hk
   go_wp2_with fail
   refine bodyPost_ret (v:=.agg #[aU (min (P0) (min (P1) (min (P2) (P3)))),aU (max (P0) (max (P1) (max (P2) (P3))))]) (by simp[results,Tryz.results147,go_sem, *]) rfl ⟨by rw[E0.out,E1.out,E2.out,E3.out],?_⟩
   repeat' (first|with_reducible exact HWV.out|with_reducible refine Below.drew ?_|with_reducible refine Below.alloc ?_ ?_ _|with_reducible refine Below.setCell ?_ ?_ _|(simp;done)|(simp;omega)|omega)):p:=h
theorem awU(h:p:=by
 clear h1 h2
 go_enter Tryz.func182,Tryz.ntmps182
 go_wp2_with fail
 go_region_held3 (fun w'=>w'.cell? ⟨w.heap.size,0,none⟩=some (aU al)∧w'.cell? ⟨w.heap.size,1,none⟩=some (aU ah)∧w'.cell? ⟨w.heap.size+1,0,none⟩=some (aU bl)∧w'.cell? ⟨w.heap.size+1,1,none⟩=some (aU bh))
  (first|(simp[go_sem, *];done))
  (first|(go_at_call 206;refine(awV _ _ _ _ al4 al5 _).mono ?_;rintro e w1 ⟨rfl,hb⟩;obtain⟨hc,hf⟩:=jd hb;have hz:=hb.size;(try simp at hz);have z0:w.heap.size<w1.heap.size:=bQ;have z1:w.heap.size+1<w1.heap.size:=bQ;have z2:w.heap.size+1+1<w1.heap.size:=bQ;have z3:w.heap.size+1+1+1<w1.heap.size:=bQ;have hwn:Below w.heap.size w w1:=awW;clear hb))
 go_wp2_with fail
 refine bodyPost_ret (v:=.tuple #[.agg #[aU ((lS ⟨al,ah⟩ ⟨bl,bh⟩).lo),aU ((lS ⟨al,ah⟩ ⟨bl,bh⟩).hi)],.agg #[aU ((lS ⟨bl,bh⟩ ⟨al,ah⟩).lo),aU ((lS ⟨bl,bh⟩ ⟨al,ah⟩).hi)],.bool true]) (by simp[results,Tryz.results182,go_sem, *]) rfl ⟨rfl,?_⟩
 repeat' (first|with_reducible exact hwn|with_reducible refine Below.setCell ?_ ?_ _|(simp;done)|(simp;omega))):p:=h
end Go.Proofs
