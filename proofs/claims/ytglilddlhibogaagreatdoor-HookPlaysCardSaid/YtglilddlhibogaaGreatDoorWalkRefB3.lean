/- A part of the proof; each theorem states its conditions. -/
import Derived.Test.YtglilddlhibogaaGreatDoorWalkCheck
import Derived.Test.YtglilddlhibogaaGreatDoorWalkRefB4
import Derived.Test.YtglilddlhibogaaGreatDoorWalkRefB4n
import Derived.Test.YtglilddlhibogaaGreatDoorWalkRefB2
import Derived.Test.YtglilddlhibogaaGreatDoorRows
import Derived.LaidMore
import Derived.Lib.LaidU8
import Derived.Lib.SmallJoins
import Derived.SevenTiedAt
import Derived.Lib.ParseIntBTie
set_option linter.unusedSimpArgs false
set_option linter.unusedVariables false
set_option maxRecDepth 100000
set_option maxHeartbeats 100000000
namespace Go.Proofs.YtglilddlhibogaaGreatDoor.R
open Go.ChangeShapes Go.WideShapes Go.ChangeAt Go.RowKit Go.Joins Go.Deep
theorem laidOut:laidOutB Tryz.prog=true:=dF
theorem cellsS:Tryz.prog.cellsOf 110=6:=dF
theorem aeH{n:Int}(h:(Lit.int .i64 n).wf=true):P.In64 n:=by
 simp[Lit.wf,IntKind.min,IntKind.max,IntKind.signed,IntKind.bits]at h;exact h
theorem six{α:Type}{l:List α}(h:l.length=6):∃ a b c d e f,l=[a,b,c,d,e,f]:=by
 match l,h with
 |[a,b,c,d,e,f],_=>exact⟨a,b,c,d,e,f,rfl⟩
theorem aH9{H:Type}{enc:TypeId × Value→H}{W:World}{sp:Nat→Bool}{held:Bool}{fuel:Nat}{cs:List Value}{x:DataW H × List MemPlace}
  (h:DataW.trod enc Tryz.prog W 0 sp held fuel 110 cs=some x) :
  ∃ s:P.Step,cs=[aU s.code,aU s.dst,aU s.src,.bool s.reg,aU s.off,aU s.num]∧P.In64 s.dst∧P.In64 s.src∧P.In64 s.off∧P.In64 s.num:=by
 obtain⟨xs,n,-,-,hl,hxl,hf⟩:=DataW.trod_struct Tryz.underlying110 h;rw[cellsS]at hl;obtain⟨c0,c1,c2,c3,c4,c5,rfl⟩:=six hl;obtain⟨x0,x1,x2,x3,x4,x5,rfl⟩:=six hxl;have g0:DataW.trod enc Tryz.prog W 0 sp held n 3 (List.take (Tryz.prog.cellsOf 3) (List.drop 0 [c0,c1,c2,c3,c4,c5]))=some x0:=hf 0 _ rfl;have g1:DataW.trod enc Tryz.prog W 0 sp held n 3 (List.take (Tryz.prog.cellsOf 3) (List.drop 1 [c0,c1,c2,c3,c4,c5]))=some x1:=hf 1 _ rfl;have g2:DataW.trod enc Tryz.prog W 0 sp held n 3 (List.take (Tryz.prog.cellsOf 3) (List.drop 2 [c0,c1,c2,c3,c4,c5]))=some x2:=hf 2 _ rfl;have g3:DataW.trod enc Tryz.prog W 0 sp held n 4 (List.take (Tryz.prog.cellsOf 4) (List.drop 3 [c0,c1,c2,c3,c4,c5]))=some x3:=hf 3 _ rfl;have g4:DataW.trod enc Tryz.prog W 0 sp held n 3 (List.take (Tryz.prog.cellsOf 3) (List.drop 4 [c0,c1,c2,c3,c4,c5]))=some x4:=hf 4 _ rfl;have g5:DataW.trod enc Tryz.prog W 0 sp held n 2 (List.take (Tryz.prog.cellsOf 2) (List.drop 5 [c0,c1,c2,c3,c4,c5]))=some x5:=hf 5 _ rfl;have cI:Tryz.prog.cellsOf 3=1:=dF;have cB:Tryz.prog.cellsOf 4=1:=dF;have cL:Tryz.prog.cellsOf 2=1:=dF;simp only[cI,cB,cL,List.drop_zero,List.drop_succ_cons,List.take_succ_cons,List.take_zero]at g0 g1 g2 g3 g4 g5;obtain⟨k0,e0,-⟩:=DataW.trod_int Tryz.underlying3 g0;obtain⟨k1,e1,-,w1⟩:=DataW.trod_int Tryz.underlying3 g1;obtain⟨k2,e2,-,w2⟩:=DataW.trod_int Tryz.underlying3 g2;obtain⟨k3,e3,-⟩:=DataW.trod_bool Tryz.underlying4 g3;obtain⟨k4,e4,-,w4⟩:=DataW.trod_int Tryz.underlying3 g4
 obtain⟨k5,e5,-,w5⟩:=DataW.trod_int Tryz.underlying2 g5;simp only[List.cons.injEq,and_true]at e0 e1 e2 e3 e4 e5;subst e0 e1 e2 e3 e4 e5;exact⟨⟨k0,k1,k2,k3,k4,k5⟩,rfl,aeH w1,aeH w2,aeH w4,aeH w5⟩
theorem aHy{H:Type}{enc:TypeId × Value→H}{W:World}{fuel:Nat}{v:Value}{x:DataW H × List MemPlace}
  (h:DataW.trod enc Tryz.prog W 0 (fun _=>true) true fuel 33 [v]=some x) :
  v=.slice none 0 0∨∃ a len cap S,v=.slice (some a) len cap∧len≤cap∧Go.Proofs.YtglilddlhibogaaGreatDoor.W.Cells W a S len∧∀ j,j<len→P.In64 (S j).dst∧P.In64 (S j).src∧P.In64 (S j).off∧P.In64 (S j).num:=by
 rcases open_slice Tryz.underlying33 h with ⟨hc,-⟩|⟨a,len,cap,m,n,D,Pl,hc,hb,hl,hm,hmm,hx,hi⟩
 ·exact .inl (by simpa using hc)
 ·right;have hs:∀ i,i<len→∃ s:P.Step,W.cell? (a.add (i*6))=some (aU s.code)∧W.cell? ⟨(a.add (i*6)).block,(a.add (i*6)).off+1,none⟩=some (aU s.dst) ∧
    W.cell? ⟨(a.add (i*6)).block,(a.add (i*6)).off+2,none⟩=some (aU s.src)∧W.cell? ⟨(a.add (i*6)).block,(a.add (i*6)).off+3,none⟩=some (.bool s.reg) ∧
    W.cell? ⟨(a.add (i*6)).block,(a.add (i*6)).off+4,none⟩=some (aU s.off)∧W.cell? ⟨(a.add (i*6)).block,(a.add (i*6)).off+5,none⟩=some (aU s.num)∧P.In64 s.dst∧P.In64 s.src∧P.In64 s.off∧P.In64 s.num:=by
   intro i hil;have him:i<m:=by rw[hmm];simp;omega
   obtain⟨cs,hcs,ht⟩:=hi i him;rw[cellsS]at hcs;obtain⟨-,-,hat⟩:=World.cells?_some hcs;obtain⟨s,rfl,i4⟩:=aH9 ht;exact⟨s,hat 0 bQ,hat 1 bQ,hat 2 bQ,hat 3 bQ,hat 4 bQ,hat 5 bQ,i4⟩
  refine⟨a,len,cap,fun i=>if hl:i<len then Classical.choose (hs i hl)else⟨0,0,0,false,0,0⟩,by simpa using hc,hl,fun i hil=>?_,fun i hil=>?_⟩
  ·simp only[hil,dite_true];obtain⟨h0,h1,h2,h3,h4,h5,-⟩:=Classical.choose_spec (hs i hil);exact⟨h0,h1,h2,h3,h4,h5⟩
  ·simp only[hil,dite_true];exact(Classical.choose_spec (hs i hil)).2.2.2.2.2.2
end Go.Proofs.YtglilddlhibogaaGreatDoor.R
namespace Go.Proofs.YtglilddlhibogaaGreatDoor.W
open Go.RowKit Go.Proofs.YtglilddlhibogaaGreatDoor.P
theorem rC.later{w w':World}{v:Value}{n p:Int}(h:rC w v n p)(hb:Below w.heap.size w w'):rC w' v n p:=by
 rcases h with h|h|⟨hne,b,hv,h0,h1⟩
 ·exact .inl h
 ·exact .inr (.inl h)
 ·have l:=block_lt_of_cell h0;exact .inr (.inr ⟨hne,b,hv,(hb.cell l).trans h0,(hb.cell (p:=⟨b,1,none⟩) l).trans h1⟩)
theorem is_same(v:Value)(n p:Int)(w:World)(h:rC w v n p)(hg:w.cell? ⟨5,0,none⟩=some (.iface 317 (.agg #[.pointer (some ⟨14,26,none⟩)]))) :
  Calls Tryz.prog 16 #[v,.agg #[aU n,aU p]] w fun e w'=>e=.returned (.bool true)∧Below w.heap.size w w':=by
 refine fU ?_;intro HW0;have hlt:=block_lt_of_cell hg;rcases h with ⟨rfl,rfl,rfl⟩|⟨-,rfl,rfl⟩|⟨-,b,rfl,h0,h1⟩
 ·go_enter Tryz.func16,Tryz.ntmps16;go_wp2_with fail;refine(aK9 _).mono ?_;refine apw ?_;intro w1 hc1 hf1 hz1 HW1 z10;have b0:w1.cell? ⟨w.heap.size,0,none⟩=some (aU 0):=XI;have b1:w1.cell? ⟨w.heap.size,1,none⟩=some (aU (-1)):=XI;exact aqV
 ·go_enter Tryz.func16,Tryz.ntmps16;go_wp2_with fail;refine(aLa n _ ap7).mono ?_;refine apw ?_;intro w1 hc1 hf1 hz1 HW1 z10;have b0:w1.cell? ⟨w.heap.size,0,none⟩=some (aU n):=XI;have b1:w1.cell? ⟨w.heap.size,1,none⟩=some (aU (-1)):=XI;clear hc1 hf1;go_wp2_with fail;go_ret
  exact⟨aap dY,jZ⟩
 ·have l:=block_lt_of_cell h0;go_enter Tryz.func16,Tryz.ntmps16;go_wp2_with fail;refine(aLb b n p _ ap7 (by rw[World.cell?_alloc_lt _ _ ⟨b,0,none⟩ l];exact h0) (by rw[World.cell?_alloc_lt _ _ ⟨b,1,none⟩ l];exact h1)).mono ?_;refine apw ?_;intro w1 hc1 hf1 hz1 HW1 z10;have b0:w1.cell? ⟨w.heap.size,0,none⟩=some (aU n):=XI;have b1:w1.cell? ⟨w.heap.size,1,none⟩=some (aU p):=XI;clear hc1 hf1;go_wp2_with fail;go_ret
  exact⟨aap dY,jZ⟩
def c6(t:Step):List Value:=[aU t.code,aU t.dst,aU t.src,.bool t.reg,aU t.off,aU t.num]
theorem apj(t:Step):(c6 t).length=6:=rfl
def rowOf(L:List Step):List Value:=L.flatMap c6
theorem asW(t:Step)(L:List Step):rowOf (t::L)=c6 t++rowOf L:=by simp[rowOf]
theorem amG:∀ L:List Step,(rowOf L).length=L.length*6
 |[]=>rfl
 |t::L=>by rw[asW,List.length_append,amG L,apj];simp;omega
theorem aHm(t:Step)(L:List Step):nth (t::L) 0=t:=rfl
theorem aHn(t:Step)(L:List Step)(i:Nat):nth (t::L) (i+1)=nth L i:=rfl
theorem asX:∀ (L:List Step) (i j:Nat),i<L.length→j<6→(rowOf L)[i*6+j]?=(c6 (nth L i))[j]?
 |[],i,j,hi,_=>by simp at hi
 |t::L,0,j,_,hj=>by
  rw[asW,aHm,Nat.zero_mul,Nat.zero_add,List.getElem?_append_left (by rw[apj];exact hj)]
 |t::L,i+1,j,hi,hj=>by
  rw[asW,aHn,List.getElem?_append_right (by rw[apj];omega),apj,show(i+1)*6+j-6=i*6+j by omega];exact asX L i j amD hj
theorem ag8{w:World}{base g n cap:Nat}{e:TypeId}{L:List Step}(hL:L.length=n)(h:w.ownsRow base e 6 (.slice (some ⟨g,0,none⟩) n cap) n (rowOf L)){i j:Nat}{v:Value}(hi:i<n)(hj:j<6)(hv:(c6 (nth L i))[j]?=some v) :
  w.cell? ⟨g,i*6+j,none⟩=some v:=by
 have:=h.cells (g:=g) rfl (i*6+j) v (by rw[asX L i j bQ hj];exact hv);exact ayw
theorem ayx{w:World}{base g n cap:Nat}{e:TypeId}{L:List Step}(hL:L.length=n)(h:w.ownsRow base e 6 (.slice (some ⟨g,0,none⟩) n cap) n (rowOf L)):Cells w ⟨g,0,none⟩ (nth L) n:=by
 intro i hi;have hadd:(⟨g,0,none⟩:Addr).add (i*6)=⟨g,i*6,none⟩:=by unfold Addr.add;split<;>simp_all
 rw[hadd];exact⟨ag8 hL h hi (j:=0) bQ rfl,ag8 hL h hi (j:=1) bQ rfl,ag8 hL h hi (j:=2) bQ rfl,ag8 hL h hi (j:=3) bQ rfl,ag8 hL h hi (j:=4) bQ rfl,ag8 hL h hi (j:=5) bQ rfl⟩
def vY(w:World):Prop:=w.cell? ⟨5,0,none⟩=some (.iface 317 (.agg #[.pointer (some ⟨14,26,none⟩)]))
theorem vY.later{w w':World}(h:vY w)(hb:Below w.heap.size w w'):vY w':=(hb.cell (block_lt_of_cell h)).trans h
theorem pI{w:World}{base:Nat}{e:TypeId}{size:Nat}{v:Value}{n:Nat}{xs:List Value}(h:w.ownsRow base e size v n xs):∃ og cap,v=.slice og n cap:=by
 rcases h.2 with ⟨rfl,rfl⟩|⟨g,cap,_,rfl,_⟩
 ·exact⟨_,_,rfl⟩
 ·exact⟨_,_,rfl⟩
theorem avj{w:World}{v:Value}{p:Int}(h:rC w v 0 p):v=.nilIface:=by
 rcases h with ⟨h,_⟩|⟨h,_⟩|⟨h,_⟩
 ·exact h
 ·exact absurd rfl h
 ·exact absurd rfl h
theorem aCD{w:World}{v:Value}{n p:Int}(h:rC w v n p)(hn:n≠0):∃ t x,v=.iface t x:=by
 rcases h with ⟨_,h,_⟩|⟨_,h,_⟩|⟨_,b,h,_⟩
 ·exact absurd h hn
 ·exact⟨_,_,h⟩
 ·exact⟨_,_,h⟩
theorem ED{w w':World}{base:Nat}{e:TypeId}{size:Nat}{v:Value}{n:Nat}{xs:List Value}(h:w.ownsRow base e size v n xs)(hb:Below w.heap.size w w'):w'.ownsRow base e size v n xs:=by
 have hl:=h.lt;refine⟨h.1,?_⟩;rcases h.2 with hn|⟨g,cap,cur,rfl,hb',hgg,rest⟩
 ·exact .inl hn
 ·exact .inr ⟨g,cap,cur,rfl,hb',(hb.block g (hl g rfl).2).trans hgg,rest⟩
theorem aLO(al ah bl bh:Int)(ia:In64 al)(eP:In64 ah)(ib:In64 bl)(ib2:In64 bh)(ha:al≤ah)(hb:bl≤bh)(w:World)(hg0:w.cell? ⟨4,0,none⟩=some (aU (-9223372036854775808)))(hg1:w.cell? ⟨4,1,none⟩=some (aU 9223372036854775807))(gz:4<w.heap.size) :
  Calls Tryz.prog 147 #[aU 4,.agg #[aU al,aU ah],.agg #[aU bl,aU bh]] w fun e w'=>e=.returned (.agg #[aU ((dV 4 ⟨al,ah⟩ ⟨bl,bh⟩).lo),aU ((dV 4 ⟨al,ah⟩ ⟨bl,bh⟩).hi)])∧Below w.heap.size w w':=by
 have e:dV 4 ⟨al,ah⟩ ⟨bl,bh⟩=Oq ⟨al,ah⟩ ⟨bl,bh⟩:=rfl;rw[e];by_cases l0:al < -2147483648
 ·rw[NM bQ];exact aKv al ah bl bh l0 w hg0 hg1 gz
 by_cases g0:2147483648<al
 ·rw[NM bQ];exact aKw al ah bl bh g0 w hg0 hg1 gz
 have s0:-2147483648≤al:=bQ;have t0:al≤2147483648:=bQ;by_cases l1:ah < -2147483648
 ·rw[NM bQ];exact aKx al ah bl bh s0 t0 l1 w hg0 hg1 gz
 by_cases g1:2147483648<ah
 ·rw[NM bQ];exact aKy al ah bl bh s0 t0 g1 w hg0 hg1 gz
 have s1:-2147483648≤ah:=bQ;have t1:ah≤2147483648:=bQ;by_cases l2:bl < -2147483648
 ·rw[NM bQ];exact aKz al ah bl bh s0 t0 s1 t1 l2 w hg0 hg1 gz
 by_cases g2:2147483648<bl
 ·rw[NM bQ];exact aKA al ah bl bh s0 t0 s1 t1 g2 w hg0 hg1 gz
 have s2:-2147483648≤bl:=bQ;have t2:bl≤2147483648:=bQ;by_cases l3:bh < -2147483648
 ·rw[NM bQ];exact aKB al ah bl bh s0 t0 s1 t1 s2 t2 l3 w hg0 hg1 gz
 by_cases g3:2147483648<bh
 ·rw[NM bQ];exact aKC al ah bl bh s0 t0 s1 t1 s2 t2 g3 w hg0 hg1 gz
 have s3:-2147483648≤bh:=bQ;have t3:bh≤2147483648:=bQ;rw[awm s0 t0 s1 t1 s2 t2 s3 t3];by_cases p0:0≤al
 ·exact aKD al ah bl bh s0 t0 s1 t1 s2 t2 s3 t3 p0 w hg0 hg1 gz
 ·exact aHo al ah bl bh s0 t0 s1 t1 s2 t2 s3 t3 p0 w hg0 hg1 gz
theorem ams(c al ah bl bh:Int)(ia:In64 al)(eP:In64 ah)(ib:In64 bl)(ib2:In64 bh)(ha:al≤ah)(hb:bl≤bh)(w:World)(hg0:w.cell? ⟨4,0,none⟩=some (aU (-9223372036854775808)))(hg1:w.cell? ⟨4,1,none⟩=some (aU 9223372036854775807))(gz:4<w.heap.size) :
  Calls Tryz.prog 147 #[aU c,.agg #[aU al,aU ah],.agg #[aU bl,aU bh]] w fun e w'=>e=.returned (.agg #[aU ((dV c ⟨al,ah⟩ ⟨bl,bh⟩).lo),aU ((dV c ⟨al,ah⟩ ⟨bl,bh⟩).hi)])∧Below w.heap.size w w':=by
 by_cases hc:c<1∨13<c
 ·exact aJl c hc al ah bl bh ia eP ib ib2 ha hb w hg0 hg1 gz
 have hc':c=1∨c=2∨c=3∨c=4∨c=5∨c=6∨c=7∨c=8∨c=9∨c=10∨c=11∨c=12∨c=13:=bQ;rcases hc' with rfl|rfl|rfl|rfl|rfl|rfl|rfl|rfl|rfl|rfl|rfl|rfl|rfl
 ·exact aI9 al ah bl bh ia eP ib ib2 ha hb w hg0 hg1 gz
 ·exact aJa al ah bl bh ia eP ib ib2 ha hb w hg0 hg1 gz
 ·exact aJb al ah bl bh ia eP ib ib2 ha hb w hg0 hg1 gz
 ·exact aLO al ah bl bh ia eP ib ib2 ha hb w hg0 hg1 gz
 ·exact aJc al ah bl bh ia eP ib ib2 ha hb w hg0 hg1 gz
 ·exact aJd al ah bl bh ia eP ib ib2 ha hb w hg0 hg1 gz
 ·exact aJe al ah bl bh ia eP ib ib2 ha hb w hg0 hg1 gz
 ·exact aJf al ah bl bh ia eP ib ib2 ha hb w hg0 hg1 gz
 ·exact aJg al ah bl bh ia eP ib ib2 ha hb w hg0 hg1 gz
 ·exact aJh al ah bl bh ia eP ib ib2 ha hb w hg0 hg1 gz
 ·exact aJi al ah bl bh ia eP ib ib2 ha hb w hg0 hg1 gz
 ·exact aJj al ah bl bh ia eP ib ib2 ha hb w hg0 hg1 gz
 ·exact aJk al ah bl bh ia eP ib ib2 ha hb w hg0 hg1 gz
end Go.Proofs.YtglilddlhibogaaGreatDoor.W
