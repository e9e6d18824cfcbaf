/- Closed pieces of proofs that come again and again, each a proposition's own proof. -/
import Derived.Test.YtglilddlhibogaaGreatDoorZZ0
import Derived.Deep.Light
import Derived.Deep.QuietTactic
import Derived.Deep.RegionWith
import Derived.IntWalk
set_option maxRecDepth 100000
namespace Go.Proofs
variable{p q:Prop}
theorem aO8(h:p:=by
 obtain⟨k,hk,rfl,n0,n1,n2,n3,n4,n5,n6,n7,m0,m1,m2,m3,n8,n9,BI⟩:=hrel
 have HWV:=bW BI
 clear BI
 have n11:w.heap.size+1+1<wr.heap.size:=bQ
 have n10:¬w1.heap.size=wr.heap.size:=bQ
 by_cases h:k<4
 ·have h4:k=0∨k=1∨k=2∨k=3:=bQ
  clear h hk
  rcases h4 with rfl|rfl|rfl|rfl
  ·simp only[KZ,Lc]at n0 n1
   go_wp2_with fail
   go_region_with (first|(go_at_call 73;refine(VJ _ _).mono ?_;rintro e w2 ⟨rfl,rfl⟩)|(go_at_call 75;refine(QO _ _ _ _ _).mono ?_;rintro e w2 ⟨rfl,hb⟩;obtain⟨hc,hf⟩:=jd hb;have hz:=hb.size;(try simp at hz);have y2:w.heap.size+1+1<w2.heap.size:=bQ;have y4:w.heap.size+1+1+1+1<w2.heap.size:=bQ;have yc:w1.heap.size<w2.heap.size:=bQ;have hwn:Below w.heap.size w w2:=Below.trans Ou (hb.mono fD);clear hb))
   all_goals
    have a0:w2.cell? ⟨w1.heap.size,0,none⟩=some (aU (P0)):=gK
    have JV:w2.frozen? ⟨w1.heap.size,0,none⟩=false:=lY
    have a1:w2.cell? ⟨w1.heap.size,1,none⟩=some (aU (P0)):=gK
    have Gz:w2.frozen? ⟨w1.heap.size,1,none⟩=false:=lY
    have b0:w2.cell? ⟨w.heap.size+1+1,0,none⟩=some (aU 0):=gK
    have GH:w2.frozen? ⟨w.heap.size+1+1,0,none⟩=false:=lY
    have b1:w2.cell? ⟨w.heap.size+1+1,1,none⟩=some (aU 0):=gK
    have GI:w2.frozen? ⟨w.heap.size+1+1,1,none⟩=false:=lY
    have d0:w2.cell? ⟨w.heap.size+1+1+1+1,0,none⟩=some (aU P0):=gK
    have d1:w2.cell? ⟨w.heap.size+1+1+1+1,1,none⟩=some (aU P1):=gK
    have d2:w2.cell? ⟨w.heap.size+1+1+1+1,2,none⟩=some (aU P2):=gK
    have d3:w2.cell? ⟨w.heap.size+1+1+1+1,3,none⟩=some (aU P3):=gK
    clear hc hf
    go_wp2_with fail
    go_roundw
    case rel=>exact⟨1,by omega,by first|rfl|go_num,eF,eF,eF,eF,eF,eF,eF,eF,eF,eF,eF,eF,eF,eF,by repeat' (first|with_reducible exact hwn|with_reducible refine Below.drew ?_|with_reducible refine Below.alloc ?_ ?_ _|with_reducible refine Below.setCell ?_ ?_ _|(simp;done)|(simp;omega)|omega)⟩
    case measure=>simp[intOf]
  ·simp only[KZ,Lc]at n0 n1
   go_wp2_with fail
   go_region_with (first|(go_at_call 73;refine(VJ _ _).mono ?_;rintro e w2 ⟨rfl,rfl⟩)|(go_at_call 75;refine(QO _ _ _ _ _).mono ?_;rintro e w2 ⟨rfl,hb⟩;obtain⟨hc,hf⟩:=jd hb;have hz:=hb.size;(try simp at hz);have y2:w.heap.size+1+1<w2.heap.size:=bQ;have y4:w.heap.size+1+1+1+1<w2.heap.size:=bQ;have yc:w1.heap.size<w2.heap.size:=bQ;have hwn:Below w.heap.size w w2:=Below.trans Ou (hb.mono fD);clear hb))
   all_goals
    have a0:w2.cell? ⟨w1.heap.size,0,none⟩=some (aU (P0)):=gK
    have JV:w2.frozen? ⟨w1.heap.size,0,none⟩=false:=lY
    have a1:w2.cell? ⟨w1.heap.size,1,none⟩=some (aU (P0)):=gK
    have Gz:w2.frozen? ⟨w1.heap.size,1,none⟩=false:=lY
    have b0:w2.cell? ⟨w.heap.size+1+1,0,none⟩=some (aU 0):=gK
    have GH:w2.frozen? ⟨w.heap.size+1+1,0,none⟩=false:=lY
    have b1:w2.cell? ⟨w.heap.size+1+1,1,none⟩=some (aU 0):=gK
    have GI:w2.frozen? ⟨w.heap.size+1+1,1,none⟩=false:=lY
    have d0:w2.cell? ⟨w.heap.size+1+1+1+1,0,none⟩=some (aU P0):=gK
    have d1:w2.cell? ⟨w.heap.size+1+1+1+1,1,none⟩=some (aU P1):=gK
    have d2:w2.cell? ⟨w.heap.size+1+1+1+1,2,none⟩=some (aU P2):=gK
    have d3:w2.cell? ⟨w.heap.size+1+1+1+1,3,none⟩=some (aU P3):=gK
    clear hc hf
    go_wp2_with fail
    go_roundw
    case rel=>exact⟨2,by omega,by first|rfl|go_num,eF,eF,eF,eF,eF,eF,eF,eF,eF,eF,eF,eF,eF,eF,by repeat' (first|with_reducible exact hwn|with_reducible refine Below.drew ?_|with_reducible refine Below.alloc ?_ ?_ _|with_reducible refine Below.setCell ?_ ?_ _|(simp;done)|(simp;omega)|omega)⟩
    case measure=>simp[intOf]
  ·simp only[KZ,Lc]at n0 n1
   go_wp2_with fail
   go_region_with (first|(go_at_call 73;refine(VJ _ _).mono ?_;rintro e w2 ⟨rfl,rfl⟩)|(go_at_call 75;refine(QO _ _ _ _ _).mono ?_;rintro e w2 ⟨rfl,hb⟩;obtain⟨hc,hf⟩:=jd hb;have hz:=hb.size;(try simp at hz);have y2:w.heap.size+1+1<w2.heap.size:=bQ;have y4:w.heap.size+1+1+1+1<w2.heap.size:=bQ;have yc:w1.heap.size<w2.heap.size:=bQ;have hwn:Below w.heap.size w w2:=Below.trans Ou (hb.mono fD);clear hb))
   all_goals
    have a0:w2.cell? ⟨w1.heap.size,0,none⟩=some (aU (min (P0) (P1))):=gK
    have JV:w2.frozen? ⟨w1.heap.size,0,none⟩=false:=lY
    have a1:w2.cell? ⟨w1.heap.size,1,none⟩=some (aU (max (P0) (P1))):=gK
    have Gz:w2.frozen? ⟨w1.heap.size,1,none⟩=false:=lY
    have b0:w2.cell? ⟨w.heap.size+1+1,0,none⟩=some (aU 0):=gK
    have GH:w2.frozen? ⟨w.heap.size+1+1,0,none⟩=false:=lY
    have b1:w2.cell? ⟨w.heap.size+1+1,1,none⟩=some (aU 0):=gK
    have GI:w2.frozen? ⟨w.heap.size+1+1,1,none⟩=false:=lY
    have d0:w2.cell? ⟨w.heap.size+1+1+1+1,0,none⟩=some (aU P0):=gK
    have d1:w2.cell? ⟨w.heap.size+1+1+1+1,1,none⟩=some (aU P1):=gK
    have d2:w2.cell? ⟨w.heap.size+1+1+1+1,2,none⟩=some (aU P2):=gK
    have d3:w2.cell? ⟨w.heap.size+1+1+1+1,3,none⟩=some (aU P3):=gK
    clear hc hf
    go_wp2_with fail
    go_roundw
    case rel=>exact⟨3,by omega,by first|rfl|go_num,eF,eF,eF,eF,eF,eF,eF,eF,eF,eF,eF,eF,eF,eF,by repeat' (first|with_reducible exact hwn|with_reducible refine Below.drew ?_|with_reducible refine Below.alloc ?_ ?_ _|with_reducible refine Below.setCell ?_ ?_ _|(simp;done)|(simp;omega)|omega)⟩
    case measure=>simp[intOf]
  ·simp only[KZ,Lc]at n0 n1
   go_wp2_with fail
   go_region_with (first|(go_at_call 73;refine(VJ _ _).mono ?_;rintro e w2 ⟨rfl,rfl⟩)|(go_at_call 75;refine(QO _ _ _ _ _).mono ?_;rintro e w2 ⟨rfl,hb⟩;obtain⟨hc,hf⟩:=jd hb;have hz:=hb.size;(try simp at hz);have y2:w.heap.size+1+1<w2.heap.size:=bQ;have y4:w.heap.size+1+1+1+1<w2.heap.size:=bQ;have yc:w1.heap.size<w2.heap.size:=bQ;have hwn:Below w.heap.size w w2:=Below.trans Ou (hb.mono fD);clear hb))
   all_goals
    have a0:w2.cell? ⟨w1.heap.size,0,none⟩=some (aU (min (P0) (min (P1) (P2)))):=gK
    have JV:w2.frozen? ⟨w1.heap.size,0,none⟩=false:=lY
    have a1:w2.cell? ⟨w1.heap.size,1,none⟩=some (aU (max (P0) (max (P1) (P2)))):=gK
    have Gz:w2.frozen? ⟨w1.heap.size,1,none⟩=false:=lY
    have b0:w2.cell? ⟨w.heap.size+1+1,0,none⟩=some (aU 0):=gK
    have GH:w2.frozen? ⟨w.heap.size+1+1,0,none⟩=false:=lY
    have b1:w2.cell? ⟨w.heap.size+1+1,1,none⟩=some (aU 0):=gK
    have GI:w2.frozen? ⟨w.heap.size+1+1,1,none⟩=false:=lY
    have d0:w2.cell? ⟨w.heap.size+1+1+1+1,0,none⟩=some (aU P0):=gK
    have d1:w2.cell? ⟨w.heap.size+1+1+1+1,1,none⟩=some (aU P1):=gK
    have d2:w2.cell? ⟨w.heap.size+1+1+1+1,2,none⟩=some (aU P2):=gK
    have d3:w2.cell? ⟨w.heap.size+1+1+1+1,3,none⟩=some (aU P3):=gK
    clear hc hf
    go_wp2_with fail
    go_roundw
    case rel=>exact⟨4,by omega,by first|rfl|go_num,eF,eF,eF,eF,eF,eF,eF,eF,eF,eF,eF,eF,eF,eF,by repeat' (first|with_reducible exact hwn|with_reducible refine Below.drew ?_|with_reducible refine Below.alloc ?_ ?_ _|with_reducible refine Below.setCell ?_ ?_ _|(simp;done)|(simp;omega)|omega)⟩
    case measure=>simp[intOf]
 ·obtain rfl:k=4:=bQ
  simp only[KZ,Lc]at n0 n1
  clear h hk
  go_wp2_with fail
  refine bodyPost_ret (v:=.agg #[aU (min (P0) (min (P1) (min (P2) (P3)))),aU (max (P0) (max (P1) (max (P2) (P3))))]) (by simp[results,Tryz.results147,go_sem, *]) rfl ⟨by rw[E0.out,E1.out,E2.out,E3.out],?_⟩
  repeat' (first|with_reducible exact HWV.out|with_reducible refine Below.drew ?_|with_reducible refine Below.alloc ?_ ?_ _|with_reducible refine Below.setCell ?_ ?_ _|(simp;done)|(simp;omega)|omega)):p:=h
theorem aO9(h:p:=by
 have h4:k=0∨k=1∨k=2∨k=3:=bQ
 clear h hk
 rcases h4 with rfl|rfl|rfl|rfl
 ·simp only[KZ,Lc]at n0 n1
  go_wp2_with fail
  go_region_with (first|(go_at_call 73;refine(VJ _ _).mono ?_;rintro e w2 ⟨rfl,rfl⟩)|(go_at_call 75;refine(QO _ _ _ _ _).mono ?_;rintro e w2 ⟨rfl,hb⟩;obtain⟨hc,hf⟩:=jd hb;have hz:=hb.size;(try simp at hz);have y2:w.heap.size+1+1<w2.heap.size:=bQ;have y4:w.heap.size+1+1+1+1<w2.heap.size:=bQ;have yc:w1.heap.size<w2.heap.size:=bQ;have hwn:Below w.heap.size w w2:=Below.trans Ou (hb.mono fD);clear hb))
  all_goals
   have a0:w2.cell? ⟨w1.heap.size,0,none⟩=some (aU (P0)):=gK
   have JV:w2.frozen? ⟨w1.heap.size,0,none⟩=false:=lY
   have a1:w2.cell? ⟨w1.heap.size,1,none⟩=some (aU (P0)):=gK
   have Gz:w2.frozen? ⟨w1.heap.size,1,none⟩=false:=lY
   have b0:w2.cell? ⟨w.heap.size+1+1,0,none⟩=some (aU 0):=gK
   have GH:w2.frozen? ⟨w.heap.size+1+1,0,none⟩=false:=lY
   have b1:w2.cell? ⟨w.heap.size+1+1,1,none⟩=some (aU 0):=gK
   have GI:w2.frozen? ⟨w.heap.size+1+1,1,none⟩=false:=lY
   have d0:w2.cell? ⟨w.heap.size+1+1+1+1,0,none⟩=some (aU P0):=gK
   have d1:w2.cell? ⟨w.heap.size+1+1+1+1,1,none⟩=some (aU P1):=gK
   have d2:w2.cell? ⟨w.heap.size+1+1+1+1,2,none⟩=some (aU P2):=gK
   have d3:w2.cell? ⟨w.heap.size+1+1+1+1,3,none⟩=some (aU P3):=gK
   clear hc hf
   go_wp2_with fail
   go_roundw
   case rel=>exact⟨1,by omega,by first|rfl|go_num,eF,eF,eF,eF,eF,eF,eF,eF,eF,eF,eF,eF,eF,eF,by repeat' (first|with_reducible exact hwn|with_reducible refine Below.drew ?_|with_reducible refine Below.alloc ?_ ?_ _|with_reducible refine Below.setCell ?_ ?_ _|(simp;done)|(simp;omega)|omega)⟩
   case measure=>simp[intOf]
 ·simp only[KZ,Lc]at n0 n1
  go_wp2_with fail
  go_region_with (first|(go_at_call 73;refine(VJ _ _).mono ?_;rintro e w2 ⟨rfl,rfl⟩)|(go_at_call 75;refine(QO _ _ _ _ _).mono ?_;rintro e w2 ⟨rfl,hb⟩;obtain⟨hc,hf⟩:=jd hb;have hz:=hb.size;(try simp at hz);have y2:w.heap.size+1+1<w2.heap.size:=bQ;have y4:w.heap.size+1+1+1+1<w2.heap.size:=bQ;have yc:w1.heap.size<w2.heap.size:=bQ;have hwn:Below w.heap.size w w2:=Below.trans Ou (hb.mono fD);clear hb))
  all_goals
   have a0:w2.cell? ⟨w1.heap.size,0,none⟩=some (aU (P0)):=gK
   have JV:w2.frozen? ⟨w1.heap.size,0,none⟩=false:=lY
   have a1:w2.cell? ⟨w1.heap.size,1,none⟩=some (aU (P0)):=gK
   have Gz:w2.frozen? ⟨w1.heap.size,1,none⟩=false:=lY
   have b0:w2.cell? ⟨w.heap.size+1+1,0,none⟩=some (aU 0):=gK
   have GH:w2.frozen? ⟨w.heap.size+1+1,0,none⟩=false:=lY
   have b1:w2.cell? ⟨w.heap.size+1+1,1,none⟩=some (aU 0):=gK
   have GI:w2.frozen? ⟨w.heap.size+1+1,1,none⟩=false:=lY
   have d0:w2.cell? ⟨w.heap.size+1+1+1+1,0,none⟩=some (aU P0):=gK
   have d1:w2.cell? ⟨w.heap.size+1+1+1+1,1,none⟩=some (aU P1):=gK
   have d2:w2.cell? ⟨w.heap.size+1+1+1+1,2,none⟩=some (aU P2):=gK
   have d3:w2.cell? ⟨w.heap.size+1+1+1+1,3,none⟩=some (aU P3):=gK
   clear hc hf
   go_wp2_with fail
   go_roundw
   case rel=>exact⟨2,by omega,by first|rfl|go_num,eF,eF,eF,eF,eF,eF,eF,eF,eF,eF,eF,eF,eF,eF,by repeat' (first|with_reducible exact hwn|with_reducible refine Below.drew ?_|with_reducible refine Below.alloc ?_ ?_ _|with_reducible refine Below.setCell ?_ ?_ _|(simp;done)|(simp;omega)|omega)⟩
   case measure=>simp[intOf]
 ·simp only[KZ,Lc]at n0 n1
  go_wp2_with fail
  go_region_with (first|(go_at_call 73;refine(VJ _ _).mono ?_;rintro e w2 ⟨rfl,rfl⟩)|(go_at_call 75;refine(QO _ _ _ _ _).mono ?_;rintro e w2 ⟨rfl,hb⟩;obtain⟨hc,hf⟩:=jd hb;have hz:=hb.size;(try simp at hz);have y2:w.heap.size+1+1<w2.heap.size:=bQ;have y4:w.heap.size+1+1+1+1<w2.heap.size:=bQ;have yc:w1.heap.size<w2.heap.size:=bQ;have hwn:Below w.heap.size w w2:=Below.trans Ou (hb.mono fD);clear hb))
  all_goals
   have a0:w2.cell? ⟨w1.heap.size,0,none⟩=some (aU (min (P0) (P1))):=gK
   have JV:w2.frozen? ⟨w1.heap.size,0,none⟩=false:=lY
   have a1:w2.cell? ⟨w1.heap.size,1,none⟩=some (aU (max (P0) (P1))):=gK
   have Gz:w2.frozen? ⟨w1.heap.size,1,none⟩=false:=lY
   have b0:w2.cell? ⟨w.heap.size+1+1,0,none⟩=some (aU 0):=gK
   have GH:w2.frozen? ⟨w.heap.size+1+1,0,none⟩=false:=lY
   have b1:w2.cell? ⟨w.heap.size+1+1,1,none⟩=some (aU 0):=gK
   have GI:w2.frozen? ⟨w.heap.size+1+1,1,none⟩=false:=lY
   have d0:w2.cell? ⟨w.heap.size+1+1+1+1,0,none⟩=some (aU P0):=gK
   have d1:w2.cell? ⟨w.heap.size+1+1+1+1,1,none⟩=some (aU P1):=gK
   have d2:w2.cell? ⟨w.heap.size+1+1+1+1,2,none⟩=some (aU P2):=gK
   have d3:w2.cell? ⟨w.heap.size+1+1+1+1,3,none⟩=some (aU P3):=gK
   clear hc hf
   go_wp2_with fail
   go_roundw
   case rel=>exact⟨3,by omega,by first|rfl|go_num,eF,eF,eF,eF,eF,eF,eF,eF,eF,eF,eF,eF,eF,eF,by repeat' (first|with_reducible exact hwn|with_reducible refine Below.drew ?_|with_reducible refine Below.alloc ?_ ?_ _|with_reducible refine Below.setCell ?_ ?_ _|(simp;done)|(simp;omega)|omega)⟩
   case measure=>simp[intOf]
 ·simp only[KZ,Lc]at n0 n1
  go_wp2_with fail
  go_region_with (first|(go_at_call 73;refine(VJ _ _).mono ?_;rintro e w2 ⟨rfl,rfl⟩)|(go_at_call 75;refine(QO _ _ _ _ _).mono ?_;rintro e w2 ⟨rfl,hb⟩;obtain⟨hc,hf⟩:=jd hb;have hz:=hb.size;(try simp at hz);have y2:w.heap.size+1+1<w2.heap.size:=bQ;have y4:w.heap.size+1+1+1+1<w2.heap.size:=bQ;have yc:w1.heap.size<w2.heap.size:=bQ;have hwn:Below w.heap.size w w2:=Below.trans Ou (hb.mono fD);clear hb))
  all_goals
   have a0:w2.cell? ⟨w1.heap.size,0,none⟩=some (aU (min (P0) (min (P1) (P2)))):=gK
   have JV:w2.frozen? ⟨w1.heap.size,0,none⟩=false:=lY
   have a1:w2.cell? ⟨w1.heap.size,1,none⟩=some (aU (max (P0) (max (P1) (P2)))):=gK
   have Gz:w2.frozen? ⟨w1.heap.size,1,none⟩=false:=lY
   have b0:w2.cell? ⟨w.heap.size+1+1,0,none⟩=some (aU 0):=gK
   have GH:w2.frozen? ⟨w.heap.size+1+1,0,none⟩=false:=lY
   have b1:w2.cell? ⟨w.heap.size+1+1,1,none⟩=some (aU 0):=gK
   have GI:w2.frozen? ⟨w.heap.size+1+1,1,none⟩=false:=lY
   have d0:w2.cell? ⟨w.heap.size+1+1+1+1,0,none⟩=some (aU P0):=gK
   have d1:w2.cell? ⟨w.heap.size+1+1+1+1,1,none⟩=some (aU P1):=gK
   have d2:w2.cell? ⟨w.heap.size+1+1+1+1,2,none⟩=some (aU P2):=gK
   have d3:w2.cell? ⟨w.heap.size+1+1+1+1,3,none⟩=some (aU P3):=gK
   clear hc hf
   go_wp2_with fail
   go_roundw
   case rel=>exact⟨4,by omega,by first|rfl|go_num,eF,eF,eF,eF,eF,eF,eF,eF,eF,eF,eF,eF,eF,eF,by repeat' (first|with_reducible exact hwn|with_reducible refine Below.drew ?_|with_reducible refine Below.alloc ?_ ?_ _|with_reducible refine Below.setCell ?_ ?_ _|(simp;done)|(simp;omega)|omega)⟩
   case measure=>simp[intOf]):p:=h
theorem adA(h:p:=by
 have i1:(k:Int)≤5:=bQ
 have i2:(k:Int)<11:=bQ
 have i3:(k:Int)<27:=bQ
 obtain⟨u0,z0⟩:∃ u,wr.cell? ⟨w.heap.size,k*3,none⟩=some u:=⟨_,hI.cell (k*3) bQ⟩
 obtain⟨u1,z1⟩:∃ u,wr.cell? ⟨w.heap.size,k*3+1,none⟩=some u:=⟨_,hI.cell (k*3+1) bQ⟩
 obtain⟨u2,z2⟩:∃ u,wr.cell? ⟨w.heap.size,k*3+2,none⟩=some u:=⟨_,hI.cell (k*3+2) bQ⟩
 have p0:=hI.free (k*3) bQ;have p1:=hI.free (k*3+1) bQ;have p2:=hI.free (k*3+2) bQ
 have HI1:=bW hI
 have HB1:=bW hB
 clear hI hB
 go_wp2_with fail
 go_roundw
 case rel =>
  go_light
  refine⟨k+1,by omega,by omega,by go_num,?_,?_⟩
  ·have K:=acA HI1.out (bQ:k<11) Wh.nil
   dsimp only at K
   rw[aFs _ hk1]at K
   exact K
  ·exact((HB1.out.setCell (.inl rfl) _).setCell (.inl rfl) _).setCell (.inl rfl) _
 case measure=>simp[intOf];omega):p:=h
theorem ar1(h:p:=by
 have HNS:=bW Eo
 clear Eo
 go_wp2_with (first|(with_reducible refine BJ iV 194 (.tmp 17) rfl w5.heap.size 0 iV (iK fC ns) _ (Img.iK Ld.out) Tryz.underlying194 rfl (VK _) ?_))
 rw[show((pc:Int)+1+(o:Int))=((pc+1+o:Nat):Int)by push_cast;rfl]
 have mQ:=bW (G7 HP.out f ns ((pc+1+o:Nat):Int) k' uG.out bQ adC NP)
 have uy:Hid (K 2=iO S f ns ((pc+1+o:Nat):Int) k'):=ar2
 refine(HIH.out ns (pc+1+o) k' w7 uG.out Lh.out bQ hk0' Iu G8.out zL.out Lj.out).mono ?_
 intro e w8 hp
 obtain⟨v,rfl,hE,Fq,VL⟩:=hp
 by_cases he:(iO S f ns ((pc+1+o:Nat):Int) k').1.1=0
 ·obtain rfl:=hE.nil0 he
  have CX:=bW he
  have QS:=bW Fq
  have Ov:=bW (qx.out.trans VL)
  have HL2:=bW (TV f ns ((pc+1+o:Nat):Int) k' Iu CX.out)
  clear he hE Fq VL
  go_wp2_with fail
  go_roundw
  case rel =>
   go_light
   exact⟨2,(iO S f ns ((pc+1+o:Nat):Int) k').2,by omega,by go_num,fun _=>TY.out,by rw[uy.out];exact CX.out,by rw[uy.out];exact mQ.out.place CX.out,by rw[uy.out],Int.le_trans hk0' mQ.out.looks,HL2.out,mQ.out.ok G8.out,QS.out,Ov.out⟩
  case measure=>simp[intOf]
 ·obtain⟨ty,xv,rfl⟩:=hE.noIface he
  have CX:=bW he
  have HE:=bW hE
  have QS:=bW Fq
  have Ov:=bW (qx.out.trans VL)
  clear he hE Fq VL
  go_wp2_with fail
  go_ret
  rw[HKR.out 1 bQ TY.out agt,uy.out]
  exact⟨_,rfl,HE.out,QS.out,(But.of HB2.out).trans Ov.out⟩):p:=h
theorem ar4(h:p:=by
 have HNS:=bW Eo
 clear Eo
 go_wp2_with (first|(with_reducible refine BJ iV 194 (.tmp 17) rfl w5.heap.size 0 iV (iK fC ns) _ (Img.iK Ld.out) Tryz.underlying194 rfl (VK _) ?_))
 rw[show((pc:Int)+1)=((pc+1:Nat):Int)by push_cast;rfl]
 have mQ:=bW (G7 HP.out f ns ((pc+1:Nat):Int) k' uG.out bQ adI NP)
 have uy:Hid (K 1=iO S f ns ((pc+1:Nat):Int) k'):=ar5
 refine(HIH.out ns (pc+1) k' w7 uG.out Hf.out bQ hk0' Iu G8.out zL.out Lj.out).mono ?_
 intro e w8 hp
 obtain⟨v,rfl,hE,Fq,VL⟩:=hp
 by_cases he:(iO S f ns ((pc+1:Nat):Int) k').1.1=0
 ·obtain rfl:=hE.nil0 he
  have CX:=bW he
  have QS:=bW Fq
  have Ov:=bW (qx.out.trans VL)
  have HL2:=bW (TV f ns ((pc+1:Nat):Int) k' Iu CX.out)
  clear he hE Fq VL
  go_wp2_with fail
  go_roundw
  case rel =>
   go_light
   exact⟨1,(iO S f ns ((pc+1:Nat):Int) k').2,by omega,by go_num,fun h=>by omega,by rw[uy.out];exact CX.out,by rw[uy.out];exact mQ.out.place CX.out,by rw[uy.out],Int.le_trans hk0' mQ.out.looks,HL2.out,mQ.out.ok G8.out,QS.out,Ov.out⟩
  case measure=>simp[intOf]
 ·obtain⟨ty,xv,rfl⟩:=hE.noIface he
  have CX:=bW he
  have HE:=bW hE
  have QS:=bW Fq
  have Ov:=bW (qx.out.trans VL)
  clear he hE Fq VL
  go_wp2_with fail
  go_ret
  rw[HKR.out 0 bQ TY.out agt,uy.out]
  exact⟨_,rfl,HE.out,QS.out,(But.of HB2.out).trans Ov.out⟩):p:=h
theorem awp(h:p:=by
 have HNS:=bW Eo
 clear Eo
 obtain⟨f0,f1,f2,f3,f4,f5⟩:=zM Ua.out
 simp only at f0 f1 f2 f3 f4 f5
 have HG7:=bW (HG.out.under ((CY.out.trans AV.out).below HL.out) hgb)
 have zL:=bW (HC.out.under ((CY.out.trans AV.out).below HL.out) hab)
 go_wp2_with (first|(with_reducible refine BJ iV 182 (.tmp 16) rfl w5.heap.size 0 iV (iK fV ns) _ (Img.iK Ye.out) Tryz.underlying182 rfl (rsize _) ?_))
 rw[show((pc:Int)+1+(o:Int))=((pc+1+o:Nat):Int)by push_cast;rfl]
 have mQ:=bW (G7 HP.out f ns ((pc+1+o:Nat):Int) k' uG.out bQ adC NP)
 have uH:=bW (TV (S:=S) f ns ((pc+1+o:Nat):Int) k' Iu)
 have yR:=bW (acB (S:=S) f ns ((pc+1+o:Nat):Int) k' hkl')
 have uy:Hid (K 2=iO S f ns ((pc+1+o:Nat):Int) k'):=ar2
 refine(HIH.out ns (pc+1+o) k' v' w7 uG.out Lh.out bQ hk0' Iu hkl' G8.out HG7.out zL.out AV.out.look).mono ?_
 rintro e w8 ⟨v8,rfl,Iw⟩
 have Ox:∀ c',w.heap.size≤c'→c'<w3.heap.size→v'.ownBlock≠some c':=fun c' h1 h2=>HNR.out c' h1 h2
 have VN:=bW (show ∀ c',w.heap.size≤c'→c'<w3.heap.size→v8.ownBlock≠some c' from fun c' h1 h2=>row_ne Iw.row (fun g hg=>(AV.out.look.row hg).2) bQ (Ox c' h1 h2))
 have Ll:=bW (Iw.img NR.out bQ bQ (Ox _ bQ bQ))
 have r0:w8.cell? ⟨w.heap.size+1+1,0,none⟩=some (aU 0):=Ll.out.cell 0 bQ
 have r1:w8.cell? ⟨w.heap.size+1+1,1,none⟩=some (aU 0):=Ll.out.cell 1 bQ
 have t0:=Ll.out.free 0 bQ
 have t1:=Ll.out.free 1 bQ
 have Hg:=bW (AV.out.trans Iw)
 have z8:w7.heap.size≤w8.heap.size:=Iw.size
 have zF8:w.heap.size+1+1<w8.heap.size:=bQ
 clear Iw Ox NR f0 f1 f2 f3 f4 f5
 obtain⟨r8,JW⟩:∃ r8,iO S f ns ((pc+1+o:Nat):Int) k'=r8:=⟨_,rfl⟩
 rw[JW]at mQ uH yR Hg uy
 rw[JW]
 clear JW
 obtain⟨⟨er,QT⟩,k8⟩:=r8
 simp only at mQ uH yR Hg ⊢
 by_cases he:er=0
 ·subst he
  have QU:QT=-1:=mQ.out.place rfl
  have JX:=bW QU
  clear QU
  go_wp2_with fail
  go_roundw
  case rel =>
   go_light
   refine⟨2,k8,v8,by omega,by go_num,fun _=>TY.out,by rw[uy.out],by rw[uy.out];exact JX.out,by rw[uy.out],Int.le_trans hk0' mQ.out.looks,uH.out agu,yR.out,mQ.out.ok G8.out,VN.out,?_⟩
   exact Hg.out.later ((Below.refl _ _).alloc (Nat.le_refl _) _)
  case measure=>simp[intOf]
 ·have tn:=Dl he
  have CX:=bW he
  clear he
  go_wp2_with fail
  refine bodyPost_ret (v:=.agg #[aU er,aU QT]) ?_ rfl ?_
  ·simp[results,Tryz.results104,go_sem, *]
  ·rw[HKR.out 1 bQ TY.out agt,uy.out]
   refine⟨v8,rfl,((CY.out.trans Hg.out).but (c:=w.heap.size+1+1) (((But.refl (w.heap.size+1+1) _).setCell (.inl rfl) _).setCell (.inl rfl) _) (show w.heap.size≤w.heap.size+1+1 by omega) bQ (VN.out _ bQ bQ)).later ((Below.refl _ _).alloc (Nat.le_refl _) _)⟩):p:=h
theorem awq(h:p:=by
 have HNS:=bW Eo
 clear Eo
 obtain⟨f0,f1,f2,f3,f4,f5⟩:=zM Ua.out
 simp only at f0 f1 f2 f3 f4 f5
 have HG7:=bW (HG.out.under ((CY.out.trans AV.out).below HL.out) hgb)
 have zL:=bW (HC.out.under ((CY.out.trans AV.out).below HL.out) hab)
 go_wp2_with (first|(with_reducible refine BJ iV 182 (.tmp 16) rfl w5.heap.size 0 iV (iK fV ns) _ (Img.iK Ye.out) Tryz.underlying182 rfl (rsize _) ?_))
 rw[show((pc:Int)+1)=((pc+1:Nat):Int)by push_cast;rfl]
 have mQ:=bW (G7 HP.out f ns ((pc+1:Nat):Int) k' uG.out bQ adI NP)
 have uH:=bW (TV (S:=S) f ns ((pc+1:Nat):Int) k' Iu)
 have yR:=bW (acB (S:=S) f ns ((pc+1:Nat):Int) k' hkl')
 have uy:Hid (K 1=iO S f ns ((pc+1:Nat):Int) k'):=ar5
 refine(HIH.out ns (pc+1) k' v' w7 uG.out Hf.out bQ hk0' Iu hkl' G8.out HG7.out zL.out AV.out.look).mono ?_
 rintro e w8 ⟨v8,rfl,Iw⟩
 have Ox:∀ c',w.heap.size≤c'→c'<w3.heap.size→v'.ownBlock≠some c':=fun c' h1 h2=>HNR.out c' h1 h2
 have VN:=bW (show ∀ c',w.heap.size≤c'→c'<w3.heap.size→v8.ownBlock≠some c' from fun c' h1 h2=>row_ne Iw.row (fun g hg=>(AV.out.look.row hg).2) bQ (Ox c' h1 h2))
 have Ll:=bW (Iw.img NR.out bQ bQ (Ox _ bQ bQ))
 have r0:w8.cell? ⟨w.heap.size+1+1,0,none⟩=some (aU 0):=Ll.out.cell 0 bQ
 have r1:w8.cell? ⟨w.heap.size+1+1,1,none⟩=some (aU 0):=Ll.out.cell 1 bQ
 have t0:=Ll.out.free 0 bQ
 have t1:=Ll.out.free 1 bQ
 have Hg:=bW (AV.out.trans Iw)
 have z8:w7.heap.size≤w8.heap.size:=Iw.size
 have zF8:w.heap.size+1+1<w8.heap.size:=bQ
 clear Iw Ox NR f0 f1 f2 f3 f4 f5
 obtain⟨r8,JW⟩:∃ r8,iO S f ns ((pc+1:Nat):Int) k'=r8:=⟨_,rfl⟩
 rw[JW]at mQ uH yR Hg uy
 rw[JW]
 clear JW
 obtain⟨⟨er,QT⟩,k8⟩:=r8
 simp only at mQ uH yR Hg ⊢
 by_cases he:er=0
 ·subst he
  have QU:QT=-1:=mQ.out.place rfl
  have JX:=bW QU
  clear QU
  go_wp2_with fail
  go_roundw
  case rel =>
   go_light
   refine⟨1,k8,v8,by omega,by go_num,fun h=>by omega,by rw[uy.out],by rw[uy.out];exact JX.out,by rw[uy.out],Int.le_trans hk0' mQ.out.looks,uH.out agu,yR.out,mQ.out.ok G8.out,VN.out,?_⟩
   exact Hg.out.later ((Below.refl _ _).alloc (Nat.le_refl _) _)
  case measure=>simp[intOf]
 ·have tn:=Dl he
  have CX:=bW he
  clear he
  go_wp2_with fail
  refine bodyPost_ret (v:=.agg #[aU er,aU QT]) ?_ rfl ?_
  ·simp[results,Tryz.results104,go_sem, *]
  ·rw[HKR.out 0 bQ TY.out agt,uy.out]
   refine⟨v8,rfl,((CY.out.trans Hg.out).but (c:=w.heap.size+1+1) (((But.refl (w.heap.size+1+1) _).setCell (.inl rfl) _).setCell (.inl rfl) _) (show w.heap.size≤w.heap.size+1+1 by omega) bQ (VN.out _ bQ bQ)).later ((Below.refl _ _).alloc (Nat.le_refl _) _)⟩):p:=h
theorem awr(h:p:=by
 have HW0:=bW (Below.refl w.heap.size w)
 have hlt:=hI.lt bQ
 have c0:=(hI.cell 3 bQ).trans (congrArg some ((vX (r:=1) bQ (bQ:0<3) bQ).trans (ar6 _)))
 have c1:=(hI.cell 4 bQ).trans (congrArg some ((vX (r:=1) bQ (bQ:1<3) bQ).trans (ar7 _)))
 have c2:=(hI.cell 5 bQ).trans (congrArg some ((vX (r:=1) bQ (bQ:2<3) bQ).trans (ar8 _)))
 rw[VO (bQ:1<11),hx]at c0 c1 c2
 have f0:=hI.cell 0 bQ;have f1:=hI.cell 1 bQ;have f2:=hI.cell 2 bQ
 have g0:=hI.free 0 bQ;have g1:=hI.free 1 bQ;have g2:=hI.free 2 bQ
 have ft:w.cell? ⟨b,108,none⟩=some (aU time):=hI.cell 108 bQ
 have hfin:(M.call time 1).1={ M with regs:=CZ (upd M.regs 0 ⟨1,0,0⟩) 6}:=by
  rw[aoA]
  unfold dM.call
  rw[hx]
  simp[Val.num,h1,show¬(0≤xn∧xn<4)by omega]
 have HF:=bW hfin
 have HI:=bW hI
 have S0:=hI.Dp (r:=0) bQ ⟨1,0,0⟩ rfl rfl rfl
 clear hI hx hfin
 subst h1
 have HS0:=bW S0
 clear S0
 go_enter Tryz.func123,Tryz.ntmps123
 go_wp2_with fail
 have K:=HI.out.Dp (r:=0) bQ ⟨1,0,0⟩ rfl rfl rfl
 dsimp only at K
 have KB:=((((But.refl b w).setCell (p:=⟨b,0,none⟩) (.inl rfl) (.int .u8 110)).setCell (p:=⟨b,1,none⟩) (.inl rfl) (aU 0)).setCell (p:=⟨b,2,none⟩) (.inl rfl) (aU 0))
 generalize hW:World.alloc (World.setCell _ _ _) _=ws
 have HS:Hid (Img ws b 109 (kZ told time num st out { M with regs:=upd M.regs 0 ⟨1,0,0⟩})):=bW (by rw[←hW];exact K.alloc _)
 have VP:Hid (But b w ws):=bW (by rw[←hW];exact KB.alloc _)
 clear hW K KB f0 f1 f2 g0 g1 g2 ft c0 c1 c2
 go_loopw [6] (fun i wr=>∃ k:Nat,1≤k∧k≤6∧i=aU k∧Img wr b 109 (kZ told time num st out { M with regs:=CZ (upd M.regs 0 ⟨1,0,0⟩) k})∧But b w wr) (fun i _=>6-(intOf i).toNat)
 case atStart=>exact⟨1,by omega,by omega,rfl,by rw[acC];exact HS.out,VP.out⟩
 case round =>
  obtain⟨k,hk1,hk6,rfl,hI,hB⟩:=hrel
  by_cases h:k≤5
  ·have i1:(k:Int)≤5:=bQ
   have i2:(k:Int)<27:=bQ
   have d0:=hI.cell (k*3) bQ
   have d1:=hI.cell (k*3+1) bQ
   have d2:=hI.cell (k*3+2) bQ
   have s0:=hI.free (k*3) bQ
   have s1:=hI.free (k*3+1) bQ
   have s2:=hI.free (k*3+2) bQ
   have HI1:=bW hI
   have HB1:=bW hB
   clear hI hB
   go_wp2_with fail
   go_roundw
   case rel =>
    go_light
    refine⟨k+1,by omega,by omega,by go_num,?_,?_⟩
    ·rw[←aoB _ hk1]
     exact HI1.out.Dp (bQ:k<11) Val.none rfl rfl rfl
    ·exact((HB1.out.setCell (.inl rfl) _).setCell (.inl rfl) _).setCell (.inl rfl) _
   case measure=>simp[intOf];omega
  ·obtain rfl:k=6:=bQ
   have HI1:=bW hI
   have HB1:=bW hB
   clear hI hB
   go_wp2_with fail
   go_ret
   refine⟨rfl,?_,HB1.out⟩
   rw[HF.out]
   exact HI1.out):p:=h
theorem awt(h:p:=by
 obtain⟨k,hk1,hk6,rfl,hI,hB⟩:=hrel
 by_cases h:k≤5
 ·have i1:(k:Int)≤5:=bQ
  have i2:(k:Int)<27:=bQ
  have d0:=hI.cell (k*3) bQ
  have d1:=hI.cell (k*3+1) bQ
  have d2:=hI.cell (k*3+2) bQ
  have s0:=hI.free (k*3) bQ
  have s1:=hI.free (k*3+1) bQ
  have s2:=hI.free (k*3+2) bQ
  have HI1:=bW hI
  have HB1:=bW hB
  clear hI hB
  go_wp2_with fail
  go_roundw
  case rel =>
   go_light
   refine⟨k+1,by omega,by omega,by go_num,?_,?_⟩
   ·rw[←aoB _ hk1]
    exact HI1.out.Dp (bQ:k<11) Val.none rfl rfl rfl
   ·exact((HB1.out.setCell (.inl rfl) _).setCell (.inl rfl) _).setCell (.inl rfl) _
  case measure=>simp[intOf];omega
 ·obtain rfl:k=6:=bQ
  have HI1:=bW hI
  have HB1:=bW hB
  clear hI hB
  go_wp2_with fail
  go_ret
  refine⟨rfl,?_,HB1.out⟩
  rw[HF.out]
  exact HI1.out):p:=h
theorem ar9(h:p:=by
 have qx:=bW (HB1.out.trans (hbq.mono bQ))
 have HRR:=bW (HR1.out.later hbq bQ)
 have MQ:wu wq b (.slice (some a) n cap) told time M:=wu.later ⟨out,HI.out,HO.out⟩ hbq
 have HMQ:=bW MQ
 obtain⟨aPa,IQ,-⟩:=MQ
 have q0:=IQ.cell (1+d*3) bQ
 have q1:=IQ.cell (1+d*3+1) bQ
 have q2:=IQ.cell (1+d*3+2) bQ
 have p0:=IQ.free (1+d*3) bQ
 have p1:=IQ.free (1+d*3+1) bQ
 have p2:=IQ.free (1+d*3+2) bQ
 clear IQ hbq
 go_wp2_with fail
 refine NoPanic.normal ?_
 go_wp2_with fail
 go_meet
 go_light
 refine⟨pc,le,{ M with regs:=upd M.regs d ⟨lk,ln,lc⟩},rfl,rfl,?_,?_,?_⟩
 ·(repeat' (first|with_reducible exact HRR.out|with_reducible refine Img.drew ?_|with_reducible refine Img.other ?_ ?_ _|(simp;done)|(simp;omega)|omega))
 ·(repeat' (first|with_reducible exact qx.out|with_reducible refine Below.drew ?_|with_reducible refine Below.setCell ?_ ?_ _|(simp;done)|(simp;omega)|omega))
 ·refine agv.pair HST.out pn (Hl.out.agw d zU.out) ?_
  first
  |with_reducible exact HMQ.out.gu dN lk ln lc rfl rfl rfl
  |with_reducible exact(HMQ.out.gu dN lk ln lc rfl rfl rfl).drew):p:=h
theorem asa(h:p:=by
 have i1:(k:Int)≤5:=bQ
 have i2:(k:Int)<11:=bQ
 have d0:=hI.cell (1+k*3) bQ
 have d1:=hI.cell (1+k*3+1) bQ
 have d2:=hI.cell (1+k*3+2) bQ
 have s0:=hI.free (1+k*3) bQ
 have s1:=hI.free (1+k*3+1) bQ
 have s2:=hI.free (1+k*3+2) bQ
 have HI1:=bW hI
 have HB1:=bW hB
 clear hI hB
 go_wp2_with fail
 go_roundw
 case rel =>
  go_light
  refine⟨k+1,by omega,by omega,by go_num,?_,?_,?_,?_⟩
  ·have K:=(((HI1.out.set (j:=1+k*3) bQ (EG Val.none 0)).set (j:=1+k*3+1) bQ (EG Val.none 1)).set (j:=1+k*3+2) bQ (EG Val.none 2)).congr (asb (bQ:k<11) Val.none)
   rw[←aoB _ hk1]
   exact K
  ·exact((HB1.out.setCell (.inl rfl) _).setCell (.inl rfl) _).setCell (.inl rfl) _
  ·simp[go_sem,hne,hne2,hx]
  ·simpa using hz
 case measure=>simp[intOf];omega):p:=h
theorem awu(h:p:=by
 go_region
 all_goals go_wp2_with fail
 all_goals go_meet
 all_goals go_light
 all_goals refine⟨rfl,?_,?_⟩
 all_goals first|exact((((But.refl w5.heap.size w6).setCell (.inl rfl) _).setCell (.inl rfl) _).setCell (.inl rfl) _).setCell (.inl rfl) _|exact(((((But.refl w5.heap.size w6).setCell (.inl rfl) _).setCell (.inl rfl) _).setCell (.inl rfl) _).setCell (.inl rfl) _).drew|skip
 all_goals
  have e1:(s.narrowed ⟨c,d,sr,true,o,nn⟩ ⟨pl,ph⟩ ⟨ql,qh⟩)={ s with regs:=upd (upd s.regs d ⟨(s.regs d).kind,⟨pl,ph⟩⟩) sr ⟨(s.regs sr).kind,⟨ql,qh⟩⟩}:=by
   unfold VS.narrowed
   rw[dB rfl,dw JC]
   simp only[Int.toNat_natCast]
   congr 1
   funext j
   unfold upd
   by_cases h1:j=d
   ·subst h1;simp[show¬j=sr from by omega]
   ·simp[h1]
  have K1:=(((HU.out).set (j:=d*3+1) bQ (fV ⟨((s).regs d).kind,⟨pl,ph⟩⟩ 1)).set (j:=d*3+2) bQ (fV ⟨((s).regs d).kind,⟨pl,ph⟩⟩ 2)).congr (agx (s:=s) dN ⟨pl,ph⟩ (fun _=>rfl))
  have K2:=(((K1).set (j:=sr*3+1) bQ (fV ⟨((({ s with regs:=upd s.regs d ⟨(s.regs d).kind,⟨pl,ph⟩⟩}:VS)).regs sr).kind,⟨ql,qh⟩⟩ 1)).set (j:=sr*3+2) bQ (fV ⟨((({ s with regs:=upd s.regs d ⟨(s.regs d).kind,⟨pl,ph⟩⟩}:VS)).regs sr).kind,⟨ql,qh⟩⟩ 2)).congr (agx (s:=({ s with regs:=upd s.regs d ⟨(s.regs d).kind,⟨pl,ph⟩⟩}:VS)) sN ⟨ql,qh⟩ (fun _=>rfl))
  have e2:upd s.regs d ⟨(s.regs d).kind,⟨pl,ph⟩⟩ sr=s.regs sr:=fB bQ
  simp only[e2]at K2
  rw[e1]
  first|exact K2|exact K2.drew):p:=h
theorem asc(h:p:=by
 have i1:(k:Int)≤5:=bQ
 have i2:(k:Int)<11:=bQ
 have d0:=hI.cell (k*3) bQ
 have d1:=hI.cell (k*3+1) bQ
 have d2:=hI.cell (k*3+2) bQ
 have s0:=hI.free (k*3) bQ
 have s1:=hI.free (k*3+1) bQ
 have s2:=hI.free (k*3+2) bQ
 have HI1:=bW hI
 have HB1:=bW hB
 clear hI hB
 go_wp2_with fail
 go_roundw
 case rel =>
  go_light
  refine⟨k+1,by omega,by omega,by go_num,?_,?_⟩
  ·have K:=(((HI1.out.set (j:=k*3) bQ (fC Wh.nil 0)).set (j:=k*3+1) bQ (fC Wh.nil 1)).set (j:=k*3+2) bQ (fC Wh.nil 2)).congr (Oy (bQ:k<11) Wh.nil)
   rw[←aFt _ hk1]
   exact K
  ·exact((HB1.out.setCell (.inl rfl) _).setCell (.inl rfl) _).setCell (.inl rfl) _
 case measure=>simp[intOf];omega):p:=h
theorem awv(h:p:=by
 have IQ:=Ub.out.later hbq zsd
 have qN:=bW IQ
 have HWQ:=bW (Lm.out.later hbq zbd)
 have qA:=bW (YP.out.trans (But.of hbq))
 have q0:=IQ.cell (d*3) bQ;have q1:=IQ.cell (d*3+1) bQ;have q2:=IQ.cell (d*3+2) bQ
 have p0:=IQ.free (d*3) bQ;have p1:=IQ.free (d*3+1) bQ;have p2:=IQ.free (d*3+2) bQ
 clear IQ hbq
 go_wp2_with fail
 refine NoPanic.normal ?_
 go_wp2_with fail
 go_meet
 go_light
 refine⟨pc',le,{ s' with regs:=upd s'.regs d ⟨JY,⟨ln,lc⟩⟩},rfl,rfl,?_,?_,?_⟩
 ·(repeat' (first|with_reducible exact HWQ.out|with_reducible refine Img.drew ?_|with_reducible refine Img.other ?_ ?_ _|(simp;done)|(simp;omega)|omega))
 ·(repeat' (first|with_reducible exact qA.out|with_reducible refine But.drew ?_|with_reducible refine ase ?_ ?_ _|(simp;done)|(simp;omega)|omega))
 ·refine agy.pair HST.out bQ (NS.out.aoC d zU.out) ?_
  have K:=(((qN.out.set (j:=d*3) bQ (fC ⟨JY,⟨ln,lc⟩⟩ 0)).set (j:=d*3+1) bQ (fC ⟨JY,⟨ln,lc⟩⟩ 1)).set (j:=d*3+2) bQ (fC ⟨JY,⟨ln,lc⟩⟩ 2)).congr (Oy dN ⟨JY,⟨ln,lc⟩⟩)
  first|with_reducible exact K|with_reducible exact K.drew|exact K):p:=h
theorem aww(h:p:=by
 have i1:(k:Int)≤5:=bQ
 have i2:(k:Int)<27:=bQ
 have d0:=hI.cell (k*3) bQ
 have d1:=hI.cell (k*3+1) bQ
 have d2:=hI.cell (k*3+2) bQ
 have s0:=hI.free (k*3) bQ
 have s1:=hI.free (k*3+1) bQ
 have s2:=hI.free (k*3+2) bQ
 have HI1:=bW hI
 have HB1:=bW hB
 have HO1:=bW hO
 clear hI hB hO
 go_wp2_with fail
 go_roundw
 case rel =>
  go_light
  refine⟨k+1,by omega,by omega,by go_num,?_,?_,?_⟩
  ·rw[←aoB _ hk1]
   exact HI1.out.Dp (bQ:k<11) Val.none rfl rfl rfl
  ·exact((HB1.out.setCell (Nat.le_refl _) _).setCell (Nat.le_refl _) _).setCell (Nat.le_refl _) _
  ·exact ownsRow_setCell_below (ownsRow_setCell_below (ownsRow_setCell_below HO1.out dY _) dY _) dY _
 case measure=>simp[intOf];omega):p:=h
theorem awx(h:p:=by
 go_wp2_with fail
 go_meet
 go_light
 refine⟨pc,le,M2,rfl,rfl,?_,?_,?_⟩
 ·(repeat' (first|with_reducible exact HRR.out|with_reducible refine Img.drew ?_|with_reducible refine Img.other ?_ ?_ _|(simp;done)|(simp;omega)|omega))
 ·(repeat' (first|with_reducible exact qx.out|with_reducible refine Below.drew ?_|with_reducible refine Below.setCell ?_ ?_ _|(simp;done)|(simp;omega)|omega))
 ·exact agv.pair HST.out pn Fz.out (by first|exact JD|exact JD.drew)):p:=h
theorem awy(h:p:=by
 go_wp2_with (first|(with_reducible refine BJ iV 194 (.tmp 4) rfl w.heap.size 0 iV (iK fC s) _ (Img.iK Uc.out) Tryz.underlying194 rfl (VK _) ?_)|(with_reducible refine wpList_store_mid rfl 194 (.tmp 21) (.tmp 155) rfl w3.heap.size 0 (iK fC s).toArray iV iV (agz acD) (awz _) (awC _) ?_))
 go_meet
 go_light
 refine⟨rfl,awD (agz acD),aoD (Nat.le_refl _) _ _ _ _ ((Below.refl _ _).alloc (Nat.le_refl _) _)⟩):p:=h
theorem awE(h:p:=by
 go_wp2_with (first|(with_reducible refine BJ iV 194 (.tmp 4) rfl w.heap.size 0 iV (iK fC s) _ (Img.iK Q5.out) Tryz.underlying194 rfl (VK _) ?_)|(with_reducible refine wpList_store_mid rfl 194 (.tmp 17) (.tmp 87) rfl w5.heap.size 0 (iK fC s).toArray iV iV (agz acD) (awz _) (awC _) ?_))
 go_meet
 go_light
 refine⟨rfl,awD (agz acD),aoD (Nat.le_refl _) _ _ _ _ ((Below.refl _ _).alloc (Nat.le_refl _) _)⟩):p:=h
theorem awF(h:p:=by
 go_wp2_with (first|(with_reducible refine BJ iV 182 (.tmp 5) rfl w.heap.size 0 iV (iK fV s) _ (Img.iK Q5.out) Tryz.underlying182 rfl (rsize _) ?_)|(with_reducible refine wpList_store_mid rfl 182 (.tmp 16) (.tmp 74) rfl w5.heap.size 0 (iK fV s).toArray iV iV (agz acD) (aFu _) (aFv _) ?_))
 go_meet
 go_light
 refine⟨rfl,aFw (agz acD),aoD (Nat.le_refl _) _ _ _ _ ((Below.refl _ _).alloc (Nat.le_refl _) _)⟩):p:=h
theorem adJ(h:p:=by
 go_region
 go_wp2_with fail
 go_meet
 go_light
 exact⟨rfl,(Below.refl _ _).drew⟩):p:=h
theorem awG(h:p:=by
 obtain⟨M2,le⟩:=L
 go_wp2_with fail
 go_meet
 go_light
 exact⟨pc',le,M2,rfl,rfl,HW3.out,HB3.out,agy.pair HST.out bQ zU.out HM3.out⟩):p:=h
theorem awH(h:p:=by
 go_quiet (fail)
 go_wp2_with fail
 go_meet
 go_light
 exact⟨by first|rfl|(push_cast;rfl),by first|rfl|(push_cast;rfl),nq,rfl⟩):p:=h
theorem awI(h:p:=by
 go_quiet (fail)
 go_wp2_with fail
 go_meet
 go_light
 exact⟨nq,rfl,rfl,rfl⟩):p:=h
end Go.Proofs
