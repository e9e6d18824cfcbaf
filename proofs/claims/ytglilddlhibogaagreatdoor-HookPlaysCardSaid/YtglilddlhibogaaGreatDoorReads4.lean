/- A part of the proof; each theorem states its conditions. -/
import Derived.Test.YtglilddlhibogaaGreatDoorTmps
set_option linter.unusedSimpArgs false
set_option linter.unusedVariables false
set_option maxRecDepth 100000
set_option maxHeartbeats 100000000
namespace Go.Proofs.YtglilddlhibogaaGreatDoor.R
open Go.ChangeShapes Go.WideShapes Go.ChangeAt Go.RowKit Go.Joins Go.Deep
theorem cellsA:Tryz.prog.cellsOf 36=13:=dF
theorem twelve{α:Type}{l:List α}(h:l.length=13):∃ a b c d e f g i j k m n o,l=[a,b,c,d,e,f,g,i,j,k,m,n,o]:=by
 match l,h with
 |[a,b,c,d,e,f,g,i,j,k,m,n,o],_=>exact⟨a,b,c,d,e,f,g,i,j,k,m,n,o,rfl⟩
theorem five{α:Type}{l:List α}(h:l.length=6):∃ a b c d e f,l=[a,b,c,d,e,f]:=by
 match l,h with
 |[a,b,c,d,e,f],_=>exact⟨a,b,c,d,e,f,rfl⟩
theorem aHs{H:Type}{enc:TypeId × Value→H}{W:World}{sp:Nat→Bool}{held:Bool}{fuel:Nat}{a b c d e f g h:Value}{x:DataW H × List MemPlace}
  (hf:DataW.trod enc Tryz.prog W 0 sp held fuel 34 [a,b,c,d,e,f,g,h]=some x):∃ told:Nat→Int,(∀ r,P.In64 (told r))∧[a,b,c,d,e,f,g,h]=Go.Proofs.YtglilddlhibogaaGreatDoor.W.t8 told:=by
 obtain⟨xs,m,-,-,-,hxl,hi⟩:=DataW.trod_array Tryz.underlying34 hf;obtain⟨k,h1,h2⟩:=ayC (cs:=#[a,b,c,d,e,f,g,h]) (n:=8) rfl fun i hil=>by
  have hx:=hi i hil;rw[List.getElem?_eq_getElem bQ,as2]at hx;obtain⟨k,e1,-,wk⟩:=DataW.trod_int Tryz.underlying2 hx;refine⟨k,?_,aeH wk⟩;have:=congrArg (·[0]?) e1;simpa[List.getElem?_take,List.getElem?_drop]using this
 exact⟨k,h1,by have:=congrArg Array.toList h2;exact this⟩
theorem cells3:Tryz.prog.cellsOf 22=3:=dF
theorem aHt:Tryz.prog.cellsOf 3=1:=dF
theorem aHu{H:Type}{enc:TypeId × Value→H}{W:World}{sp:Nat→Bool}{held:Bool}{r:Reach}{b0:Nat}{v:Value}{d:DataW H}{p:List MemPlace}
  (hv:Value.okWide Tryz.prog W r b0 22 v) (h:DataW.Trod enc Tryz.prog W 0 sp held 22 v d p):∃ f:Nat→Int,v=.agg #[aU (f 0),aU (f 1),aU (f 2)]:=by
 obtain⟨cs,hcs,hsz⟩:=aHv (P:=Tryz.prog) (t:=22) Tryz.underlying22 hv;subst hcs;rw[cells3]at hsz;obtain⟨fuel,hf⟩:=h;obtain⟨xs,m,-,-,-,hxl,hi⟩:=DataW.trod_array Tryz.underlying22 hf;obtain⟨f,hf1,hf2⟩:=ayC (n:=3) hsz fun i hil=>by
  have hx:=hi i hil;rw[List.getElem?_eq_getElem bQ,aHt]at hx;obtain⟨k,e,-,wk⟩:=DataW.trod_int Tryz.underlying3 hx;refine⟨k,?_,aeH wk⟩;have:=congrArg (·[0]?) e;simpa[Value.cells]using this
 exact⟨f,by rw[hf2];rfl⟩
theorem aHw{H:Type}{enc:TypeId × Value→H}{W:World}{fuel:Nat}{cs:List Value}{x:DataW H × List MemPlace}
  (h:DataW.trod enc Tryz.prog W 0 (fun _=>true) true fuel 36 cs=some x):∃ a:Go.Proofs.YtglilddlhibogaaGreatDoor.W.uQ,cs=a.cells∧a.Ok W:=by
 obtain⟨xs,n,-,-,hl,hxl,hf⟩:=DataW.trod_struct Tryz.underlying36 h;rw[cellsA]at hl;obtain⟨c0,c1,c2,c3,c4,c5,c6,c7,c8,c9,c10,c11,c12,rfl⟩:=twelve hl;obtain⟨x0,x1,x2,x3,x4,x5,rfl⟩:=five hxl;have g0:DataW.trod enc Tryz.prog W 0 (fun _=>true) true n 3 (List.take (Tryz.prog.cellsOf 3) (List.drop 0 [c0,c1,c2,c3,c4,c5,c6,c7,c8,c9,c10,c11,c12]))=some x0:=hf 0 _ rfl;have g1:DataW.trod enc Tryz.prog W 0 (fun _=>true) true n 3 (List.take (Tryz.prog.cellsOf 3) (List.drop 1 [c0,c1,c2,c3,c4,c5,c6,c7,c8,c9,c10,c11,c12]))=some x1:=hf 1 _ rfl;have g2:DataW.trod enc Tryz.prog W 0 (fun _=>true) true n 3 (List.take (Tryz.prog.cellsOf 3) (List.drop 2 [c0,c1,c2,c3,c4,c5,c6,c7,c8,c9,c10,c11,c12]))=some x2:=hf 2 _ rfl;have g3:DataW.trod enc Tryz.prog W 0 (fun _=>true) true n 3 (List.take (Tryz.prog.cellsOf 3) (List.drop 3 [c0,c1,c2,c3,c4,c5,c6,c7,c8,c9,c10,c11,c12]))=some x3:=hf 3 _ rfl;have g4:DataW.trod enc Tryz.prog W 0 (fun _=>true) true n 33 (List.take (Tryz.prog.cellsOf 33) (List.drop 4 [c0,c1,c2,c3,c4,c5,c6,c7,c8,c9,c10,c11,c12]))=some x4:=hf 4 _ rfl;have g5:DataW.trod enc Tryz.prog W 0 (fun _=>true) true n 34 (List.take (Tryz.prog.cellsOf 34) (List.drop 5 [c0,c1,c2,c3,c4,c5,c6,c7,c8,c9,c10,c11,c12]))=some x5:=hf 5 _ rfl;have cI:Tryz.prog.cellsOf 3=1:=dF;have cS:Tryz.prog.cellsOf 33=1:=dF;simp only[cI,cS,aHx,List.drop_zero,List.drop_succ_cons,List.take_succ_cons,List.take_zero]at g0 g1 g2 g3 g4 g5;obtain⟨k0,e0,-⟩:=DataW.trod_int Tryz.underlying3 g0
 obtain⟨k1,e1,-⟩:=DataW.trod_int Tryz.underlying3 g1;obtain⟨k2,e2,-,wk2⟩:=DataW.trod_int Tryz.underlying3 g2;obtain⟨k3,e3,-⟩:=DataW.trod_int Tryz.underlying3 g3;obtain⟨told,htold,e5⟩:=aHs g5;simp only[List.cons.injEq,and_true]at e0 e1 e2 e3;subst e0 e1 e2 e3;have main:∃ oa L cap,c4=.slice oa (List.length (α:=P.Step) L) cap∧L.length≤cap∧Go.Proofs.YtglilddlhibogaaGreatDoor.W.xY W oa (P.nth L) L.length∧∀ j,j<L.length→P.In64 (P.nth L j).off∧P.In64 (P.nth L j).num:=by
  rcases aHy g4 with h1|⟨a,len,cap,S,h1,hl,hs,hi⟩
  ·exact⟨none,[],0,h1,Nat.le_refl _,fun h=>by simp at h,fun j h=>by simp at h⟩
  ·have hlen:(P.first S len).length=len:=P.amH S len;have ayD:∀ j,j<len→P.nth (P.first S len) j=S j:=fun j hj=>P.ayE S len j hj;refine⟨some a,P.first S len,cap,by rw[hlen];exact h1,by rw[hlen];exact hl,fun _=>⟨a,rfl,fun i hil=>?_⟩,fun j hj=>?_⟩
   ·rw[hlen]at hil;rw[ayD i hil];exact hs i hil
   ·rw[hlen]at hj;rw[ayD j hj];exact(hi j hj).2.2
 obtain⟨oa,L,cap,rfl,hcap,hat,hin⟩:=main;have hmx:L.length≤maxLen:=by
  rcases open_slice Tryz.underlying33 g4 with ⟨hc,-⟩|⟨a,len,cap',m,n',D,Pl,hc,hb,hl,hm,-⟩
  ·simp only[List.cons.injEq,Value.slice.injEq,and_true]at hc;rw[hc.2.1];exact Nat.zero_le _
  ·simp only[List.cons.injEq,Value.slice.injEq,and_true]at hc;omega
 refine⟨⟨k0,k1,k2,k3,oa,cap,L,told⟩,?_,⟨hcap,hat,hin,hmx,aeH wk2,htold⟩⟩;show[aU k0,aU k1,aU k2,aU k3,.slice oa L.length cap,c5,c6,c7,c8,c9,c10,c11,c12]=[aU k0,aU k1,aU k2,aU k3,.slice oa L.length cap]++Go.Proofs.YtglilddlhibogaaGreatDoor.W.t8 told;rw[←e5];rfl
theorem aHz{H:Type}{enc:TypeId × Value→H}{W:World}{fuel:Nat}{v:Value}{x:DataW H × List MemPlace}
  (h:DataW.trod enc Tryz.prog W 0 (fun _=>true) true fuel 23 [v]=some x) :
  ∃ oa cap l,v=.slice oa (List.length (α:=Go.Proofs.YtglilddlhibogaaGreatDoor.W.uQ) l) cap∧l.length≤cap∧Go.Proofs.YtglilddlhibogaaGreatDoor.W.ayF W oa l∧∀ x∈l,x.Ok W:=by
 rcases open_slice Tryz.underlying23 h with ⟨hc,-⟩|⟨a,len,cap,m,n,D,Pl,hc,hb,hl,hm,hmm,hx,hi⟩
 ·exact⟨none,0,[],by simpa using hc,Nat.le_refl _,fun i x h=>by simp at h,fun x h=>by cases h⟩
 ·have hs:∀ i,i<len→∃ y:Go.Proofs.YtglilddlhibogaaGreatDoor.W.uQ,Go.Proofs.YtglilddlhibogaaGreatDoor.W.ag9 W (a.add (i*13)) y∧y.Ok W:=by
   intro i hil;have him:i<m:=by rw[hmm];simp;omega
   obtain⟨cs,hcs,ht⟩:=hi i him;rw[cellsA]at hcs;obtain⟨-,-,hat⟩:=World.cells?_some hcs;obtain⟨y,rfl,ok⟩:=aHw ht;exact⟨y,⟨hat 0 bQ,fun j v hj=>by
    have aPn:j+1<13:=by have:=(List.getElem?_eq_some_iff.1 hj).1;exact this
    have hj':j=0∨j=1∨j=2∨j=3∨j=4∨j=5∨j=6∨j=7∨j=8∨j=9∨j=10∨j=11:=bQ
    rcases hj' with rfl|rfl|rfl|rfl|rfl|rfl|rfl|rfl|rfl|rfl|rfl|rfl
    ·exact(hat 1 bQ).trans hj
    ·exact(hat 2 bQ).trans hj
    ·exact(hat 3 bQ).trans hj
    ·exact(hat 4 bQ).trans hj
    ·exact(hat 5 bQ).trans hj
    ·exact(hat 6 bQ).trans hj
    ·exact(hat 7 bQ).trans hj
    ·exact(hat 8 bQ).trans hj
    ·exact(hat 9 bQ).trans hj
    ·exact(hat 10 bQ).trans hj
    ·exact(hat 11 bQ).trans hj
    ·exact(hat 12 bQ).trans hj⟩,ok⟩
  let f:Fin len→Go.Proofs.YtglilddlhibogaaGreatDoor.W.uQ:=fun i=>Classical.choose (hs i.1 i.2)
  have hf:∀ i:Fin len,Go.Proofs.YtglilddlhibogaaGreatDoor.W.ag9 W (a.add (i.1*13)) (f i)∧(f i).Ok W:=fun i=>Classical.choose_spec (hs i.1 i.2);refine⟨some a,cap,List.ofFn f,by rw[List.length_ofFn];simpa using hc,by rw[List.length_ofFn];exact hl,fun i y hy=>⟨a,rfl,?_⟩,fun y hy=>?_⟩
  ·have hil:i<len:=by have:=(List.getElem?_eq_some_iff.1 hy).1;rwa [List.length_ofFn]at this
   rw[List.getElem?_ofFn,dif_pos hil]at hy;injection hy with hy
   rw[←hy];exact(hf ⟨i,hil⟩).1
  ·obtain⟨i,rfl⟩:=List.mem_ofFn.1 hy;exact(hf i).2
end Go.Proofs.YtglilddlhibogaaGreatDoor.R
