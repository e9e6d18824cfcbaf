/- A part of the proof; each theorem states its conditions. -/
import Derived.Test.YtglilddlhibogaaGreatDoorPureFair
import Derived.Test.YtglilddlhibogaaGreatDoorRunFull
import Derived.Deep.Onto
set_option linter.unusedSimpArgs false
set_option linter.unusedVariables false
set_option maxRecDepth 100000
set_option maxHeartbeats 100000000
namespace Go.Proofs.YtglilddlhibogaaGreatDoor.W
open Go.RowKit Go.Proofs.YtglilddlhibogaaGreatDoor.P
variable{w:World}{D:Nat}{d:HD}{vs qs:Nat→Value}{dO:Nat→List (HP × Value)}
theorem avp{w:World}{c:HC}{v:Value}{pl:List (HP × Value)}(h:uP w c v pl):∃ og cap,v=.slice og pl.length cap:=by
 rcases h.row.2 with ⟨rfl,h0⟩|⟨g,cap,cur,rfl,_⟩
 ·exact⟨_,_,by rw[h0]⟩
 ·exact⟨_,_,rfl⟩
theorem aKI{d:HD}{vs qs:Nat→Value}{k:Nat}(hk:k<3)(x:Int):∀ j,j<16→upd (Cm d vs qs) (k*2+1) (aU x) j=Cm { d with c:=upd d.c k ⟨(d.c k).l,x⟩} vs qs j:=by
 intro j hj;by_cases e:j=k*2+1
 ·subst e;rw[upd_same,(Yq hk).2];show _=aU (upd d.c k _ k).next;rw[upd_same]
 ·rw[fB e];unfold Cm;simp only;by_cases h6:j<6
  ·rw[dB h6,dB h6];by_cases h2:j%2=0
   ·rw[dB h2,dB h2]
   ·rw[dw h2,dw h2,fB bQ]
  ·rw[dw h6,dw h6]
theorem aKJ{d:HD}{vs qs:Nat→Value}{k:Nat}(hk:k<3)(c:HC)(hc:c.next=(d.c k).next)(v:Value):∀ j,j<16→upd (Cm d vs qs) (k*2) v j=Cm { d with c:=upd d.c k c} (upd vs k v) qs j:=by
 intro j hj;by_cases e:j=k*2
 ·subst e;rw[upd_same,(Yq hk).1,upd_same]
 ·rw[fB e];unfold Cm;simp only;by_cases h6:j<6
  ·rw[dB h6,dB h6];by_cases h2:j%2=0
   ·rw[dB h2,dB h2,fB bQ]
   ·rw[dw h2,dw h2];by_cases h3:j/2=k
    ·rw[h3,upd_same,hc]
    ·rw[fB h3]
  ·rw[dw h6,dw h6]
theorem lC.aKK{w:World}{D:Nat}{d:HD}{vs qs:Nat→Value}{dO:Nat→List (HP × Value)}(h:lC w D d vs qs dO){k:Nat}(hk:k<3)(x:Int) :
  lC (w.setCell ⟨D,k*2+1,none⟩ (aU x)) D { d with c:=upd d.c k ⟨(d.c k).l,x⟩} vs qs dO∧dQ (fun b=>b=D) w (w.setCell ⟨D,k*2+1,none⟩ (aU x)):=by
 have hfs:dQ (fun b=>b=D) w (w.setCell ⟨D,k*2+1,none⟩ (aU x)):=⟨rfl,rfl,rfl,by simp,fun b _ hb=>Below.heap_setCell _ _ _ _ hb⟩;refine⟨⟨(h.img.set bQ _).congr (aKI hk x),Qm h.typed _ _,fun j hj=>?_,fun j hj=>?_,h.Y4,h.Td⟩,hfs⟩
 ·have hc:=(h.chain j hj).fG hfs (fun b hb e=>((kD (h.chain j hj).row b hb).ne h.typed dS) e) (fun b ht e=>(ht.ne h.typed dS) e);by_cases e:j=k
  ·subst e;simp only[upd_same];exact⟨hc.l,hc.row,hc.code,hc.sorted,hc.short⟩
  ·simp only[fB e];exact hc
 ·exact aBA
theorem lC.aCM{w W':World}{D:Nat}{d:HD}{vs qs:Nat→Value}{dO:Nat→List (HP × Value)}(h:lC w D d vs qs dO){k:Nat}(hk:k<3)(hf:dQ (fun b=>(vs k).ownBlock=some b) w W'){c':HC}{v':Value}{jQ:List (HP × Value)}(hq:uP W' c' v' jQ)(hnext:c'.next=(d.c k).next)
  (hown:∀ b,v'.ownBlock=some b→(vs k).ownBlock=some b∨w.heap.size≤b) :
  lC (W'.setCell ⟨D,k*2,none⟩ v') D { d with c:=upd d.c k c'} (upd vs k v') qs (upd dO k jQ)∧dQ (kQ D vs qs) w (W'.setCell ⟨D,k*2,none⟩ v')∧∀ b,kQ D (upd vs k v') qs b→kQ D vs qs b∨w.heap.size≤b:=by
 have hD:=h.typed.lt;have tv:∀ b,(vs k).ownBlock=some b→Typed w b 106:=fun b hb=>kD (h.chain k hk).row b hb;have nD:∀ b,(vs k).ownBlock=some b→b≠D:=fun b hb=>(tv b hb).ne h.typed dS;have hDf:W'.heap[D]?=w.heap[D]?:=hf.block D hD (fun e=>nD D e rfl);have hTD:Typed W' D 78:=axY;have hfs:dQ (fun b=>b=D) W' (W'.setCell ⟨D,k*2,none⟩ v'):=⟨rfl,rfl,rfl,by simp,fun b _ hb=>Below.heap_setCell _ _ _ _ hb⟩;have hall:dQ (kQ D vs qs) w (W'.setCell ⟨D,k*2,none⟩ v'):=(hf.mono (fun b _ hb=>.inr ⟨k,hk,.inl hb⟩)).trans (hfs.mono fun b _ hb=>.inl hb);refine⟨⟨?_,Qm hTD _ _,fun j hj=>?_,fun j hj=>?_,fun i j b hi hj ne ei ej=>?_,h.Td⟩,hall,fun b hb=>?_⟩
 ·exact((h.img.of_block hDf).set bQ v').congr (aKJ hk c' hnext v')
 ·by_cases e:j=k
  ·subst e;simp only[upd_same];exact hq.fG hfs (fun b hb e=>(kD hq.row b hb).ne hTD dS e) (fun b ht e=>(ht.ne hTD dS) e)
  ·simp only[fB e];refine((h.chain j hj).fG hf (fun b hb hq=>h.Y4 j k b hj hk e hb hq) (fun b ht hq=>(ht.ne (tv b hq) dS) rfl)).fG hfs (fun b hb e=>?_) (fun b ht e=>(ht.ne hTD dS) e);exact((kD (h.chain j hj).row b hb).ne h.typed dS) e
 ·refine((h.queue j hj).fG hf (fun b hb hq=>?_)).fG hfs fun b hb e=>((h.queue j hj).typed b hb).ne h.typed dS e;exact(((h.queue j hj).typed b hb).ne (tv b hq) dS) rfl
 ·by_cases e1:i=k
  ·subst e1;rw[upd_same]at ei;have e2:j≠i:=fun x=>ne x.symm;rw[fB e2]at ej;rcases hown b ei with x|x
   ·exact h.Y4 i j b hi hj ne x ej
   ·have:=(kD (h.chain j hj).row b ej).lt;omega
  ·rw[fB e1]at ei;by_cases e2:j=k
   ·subst e2;rw[upd_same]at ej;rcases hown b ej with x|x
    ·exact h.Y4 i j b hi hj ne ei x
    ·have:=(kD (h.chain i hi).row b ei).lt;omega
   ·rw[fB e2]at ej;exact h.Y4 i j b hi hj ne ei ej
 ·rcases hb with rfl|⟨j,hj,hb|hb⟩
  ·exact .inl (.inl rfl)
  ·by_cases e:j=k
   ·subst e;rw[upd_same]at hb;rcases hown b hb with x|x
    ·exact .inl (.inr ⟨j,hj,.inl x⟩)
    ·exact .inr x
   ·rw[fB e]at hb;exact .inl (.inr ⟨j,hj,.inl hb⟩)
  ·exact .inl (.inr ⟨j,hj,.inr hb⟩)
theorem aKL{l:List HP}{i:Nat}(hi:i≤l.length)(x:HP)(j:Nat):(l.take i++x::l.drop i)[j]?=if j<i then l[j]? else if j=i then some x else l[j-1]?:=by
 have ht:(l.take i).length=i:=auY;by_cases h1:j<i
 ·rw[dB h1,List.getElem?_append_left bQ,List.getElem?_take,dB h1]
 ·rw[dw h1,List.getElem?_append_right bQ,ht];by_cases h2:j=i
  ·rw[dB h2,h2,Nat.sub_self];rfl
  ·rw[dw h2];obtain⟨m,hm⟩:∃ m,j-i=m+1:=⟨j-i-1,by omega⟩;rw[hm,List.getElem?_cons_succ,List.getElem?_drop];congr 1;omega
theorem sorted_put{l:List HP}(h:Sorted l)(x:HP):Sorted (l.take (hpos l x.rank)++x::l.drop (hpos l x.rank)):=by
 have hi:hpos l x.rank≤l.length:=List.findIdx_le_length;have h1:∀ (j:Nat) (p:HP),j<hpos l x.rank→l[j]?=some p→p.rank≤x.rank:=fun j p hj hp=>by
  have:=List.not_of_lt_findIdx (p:=fun p:HP=>decide (x.rank<p.rank)) hj;have hjl:j<l.length:=bQ;rw[List.getElem?_eq_getElem hjl]at hp;injection hp with hp
  subst hp;simpa using this
 have h2:∀ (p:HP),l[hpos l x.rank]?=some p→x.rank<p.rank:=fun p hp=>by
  have hlt:hpos l x.rank<l.length:=(List.getElem?_eq_some_iff.1 hp).1;have:=List.findIdx_getElem (p:=fun p:HP=>decide (x.rank<p.rank)) (xs:=l) (w:=hlt);rw[List.getElem?_eq_getElem hlt]at hp;injection hp with hp
  subst hp;exact of_decide_eq_true this
 generalize hpos l x.rank=i at hi h1 h2;intro a b p q hab hp hq;rw[aKL hi]at hp hq;split at hp
 ·split at hq
  ·exact h a b p q hab hp hq
  ·split at hq
   ·injection hq with hq;subst hq;exact h1 a p bQ hp
   ·exact h a (b-1) p q bQ hp hq
 ·split at hp
  ·injection hp with hp;subst hp
   rw[dw bQ]at hq;split at hq
   ·injection hq with hq;subst hq;exact Int.le_refl _
   ·have hil:i<l.length:=by have:=(List.getElem?_eq_some_iff.1 hq).1;omega
    have:=h2 _ (List.getElem?_eq_getElem hil);have:=h i (b-1) _ q bQ (List.getElem?_eq_getElem hil) hq;omega
  ·rw[dw bQ,dw bQ]at hq;exact h (a-1) (b-1) p q bQ hp hq
theorem apz(L:List Step):first (nth L) L.length=L:=by
 apply List.ext_getElem?;intro j;by_cases hj:j<L.length
 ·unfold first nth
  rw[List.getElem?_map,List.getElem?_range hj,List.getElem?_eq_getElem hj];simp[List.getD_eq_getElem?_getD,List.getElem?_eq_getElem hj]
 ·rw[List.getElem?_eq_none (by rw[amH];omega),List.getElem?_eq_none bQ]
theorem avm{w:World}{x:HP × Value}(h:QH w x):∃ og n c,x.2=.slice og n c:=by
 rcases h.2 with ⟨h,_⟩|⟨g,c,cur,h,_⟩<;>exact⟨_,_,_,h⟩
theorem avl{x:HP × Value}(h:∃ og n c,x.2=.slice og n c):∀ u∈yu x,u.oneCell'=true:=by
 obtain⟨og,n,c,h⟩:=h;intro u hu;unfold yu TF at hu;rw[h]at hu;simp only[List.mem_cons,List.not_mem_nil,or_false]at hu;rcases hu with rfl|rfl|rfl|rfl|rfl|rfl|rfl|rfl|rfl|rfl|rfl|rfl|rfl|rfl|rfl|rfl|rfl|rfl|rfl<;>rfl
theorem aCN{w:World}{pl:List (HP × Value)}(h:∀ x∈pl,QH w x):∀ u∈kV pl,u.oneCell'=true:=by
 intro u hu;obtain⟨x,hx,ht⟩:=List.mem_flatMap.1 hu;exact avl (avm (h x hx)) u ht
theorem aKM(a:Addr)(n:Nat):(a.add n).block=a.block:=auG
theorem Cells.fG{M:Nat→Prop}{w w':World}{a:Addr}{S:Nat→Step}{n:Nat}(h:Cells w a S n)(hf:dQ M w w')(ha:¬M a.block):Cells w' a S n:=by
 intro i hi;obtain⟨e0,e1,e2,e3,e4,e5⟩:=h i hi;have nb:¬M (a.add (i*6)).block:=by rw[aKM];exact ha
 exact⟨hf.cell e0 nb,hf.cell e1 nb,hf.cell e2 nb,hf.cell e3 nb,hf.cell e4 nb,hf.cell e5 nb⟩
theorem aeK{S:Nat→Step}{n:Nat}(h:(verify S n).1.1=0):1≤n∧n≤200:=by
 by_cases hn:n<1∨200<n
 ·unfold verify check at h;rw[dB hn]at h;simp at h
 ·omega
theorem aKN{α:Type}(f:Nat→α)(i:Nat)(a b:α):upd (upd f i a) i b=upd f i b:=by
 funext j
 by_cases e:j=i
 ·subst e;rw[upd_same,upd_same]
 ·exact asN
theorem aKO{w w3 w4 w5 w6:World}{D:Nat}{d:HD}{vs qs:Nat→Value}{dO:Nat→List (HP × Value)}{k n i:Nat}{L:List Step}{rank:Int}{v5 v6:Value}{o:Obj}(h:lC w D d vs qs dO)(hk:k<3)
  (h3:lC w3 D { d with c:=upd d.c k ⟨(d.c k).l,(d.c k).next+1⟩} vs qs dO) (hF3:dQ (fun b=>b=D) w w3) (hb4:Below w3.heap.size w3 w4) (hb5:Below w4.heap.size w4 w5)
  (vZ:w5.ownsRow w4.heap.size 110 6 v5 L.length (rowOf (first (nth L) L.length))) (hg6:(w5.alloc o).grownBy w6 (vs k).ownBlock)
  (akH:w6.ownsRow 0 106 19 v6 (n+1) ((kV (dO k)).take (i*19)++yu (⟨(d.c k).next+1,rank,L,fun _=>0⟩,v5)++(kV (dO k)).drop (i*19)))
  (hown:v6.ownBlock=(vs k).ownBlock∨∀ b,v6.ownBlock=some b→(w5.alloc o).heap.size≤b) (hn:(dO k).length=n) (hi:hpos (d.c k).l rank=i) (hn8:n<8) (hv:(verify (nth L) L.length).1.1=0) :
  ∃ vs' iP,lC (w6.setCell ⟨D,k*2,none⟩ v6) D (d.attach k L rank) vs' qs iP∧dQ (kQ D vs qs) w (w6.setCell ⟨D,k*2,none⟩ v6)∧∀ b,kQ D vs' qs b→kQ D vs qs b∨w.heap.size≤b:=by
 have hch:=h3.chain k hk;have hcl:(dO k).map (·.1)=(d.c k).l:=by have:=hch.l;simp only[upd_same]at this;exact this
 have hlen:(d.c k).l.length=n:=by rw[←hcl,List.length_map,hn]
 have avq:Below w3.heap.size w3 w5:=hb4.trans (hb5.mono hb4.size);have hf5:dQ (fun b=>(vs k).ownBlock=some b) w3 (w5.alloc o):=dQ.of (avq.alloc avq.size o);have hf6:dQ (fun b=>(vs k).ownBlock=some b) w3 w6:=hf5.trans (dQ.grown hg6 (fun b hb=>hb));have tv:∀ b,(vs k).ownBlock=some b→Typed w3 b 106:=fun b hb=>kD hch.row b hb;have hfn:dQ (fun b=>(vs k).ownBlock=some b) w5 w6:=((dQ.of ((Below.refl w5.heap.size w5).alloc (Nat.le_refl _) o)).trans (dQ.grown hg6 (fun b hb=>hb)));have hx5:QH w6 ((⟨(d.c k).next+1,rank,L,fun _=>0⟩:HP),v5):=by
  have h5:w5.ownsRow 0 110 6 v5 L.length (rowOf L):=by
   have:=amO vZ (Nat.zero_le _);rwa [apz]at this
  refine hfn.row h5 fun b hb hq=>?_;have h1:=(vZ.lt b hb).1;have h2:=(tv b hq).lt;have:=hb4.size;omega
 have hsz:w.heap.size≤w3.heap.size:=hF3.size;have hchain:uP w6 ((d.c k).put L rank) v6 ((dO k).take i++(⟨(d.c k).next+1,rank,L,fun _=>0⟩,v5)::(dO k).drop i):=by
  refine⟨?_,?_,fun x hx=>?_,?_,?_⟩
  ·unfold HC.put;rw[hi,List.map_append,List.map_cons,List.map_take,List.map_drop,hcl]
  ·rw[aKP]at akH;have:((dO k).take i++((⟨(d.c k).next+1,rank,L,fun _=>0⟩:HP),v5)::(dO k).drop i).length=n+1:=by
    exact aBy
   rw[this];exact akH
  ·have old:∀ y∈dO k,QH w6 y:=fun y hy=>hf6.row (hch.code y hy) fun b hb hq=>((kD (hch.code y hy) b hb).ne (tv b hq) dS) rfl;rcases List.mem_append.1 hx with hx|hx
   ·exact old x (List.mem_of_mem_take hx)
   ·rcases List.mem_cons.1 hx with e|hx
    ·subst e;exact hx5
    ·exact old x (List.mem_of_mem_drop hx)
  ·have hs:Sorted (d.c k).l:=by have:=hch.sorted;simp only[upd_same]at this;exact this
   exact sorted_put hs ⟨(d.c k).next+1,rank,L,fun _=>0⟩
  ·exact aBy
 obtain⟨r1,r2,r3⟩:=h3.aCM hk hf6 (c':=(d.c k).put L rank) hchain (by simp only[upd_same];rfl) (fun b hb=>by
  rcases hown with x|x
  ·exact .inl (x▸hb)
  ·refine .inr ?_
   have h1:=x b hb
   have h2:=avq.size
   simp at h1
   omega)
 have hD:∀ b,b=D→kQ D vs qs b:=fun b e=>.inl e;refine⟨upd vs k v6,upd dO k ((dO k).take i++(⟨(d.c k).next+1,rank,L,fun _=>0⟩,v5)::(dO k).drop i),?_,(hF3.mono fun b _ e=>hD b e).trans r2,fun b hb=>?_⟩
 ·have e:d.attach k L rank={ ({ d with c:=upd d.c k ⟨(d.c k).l,(d.c k).next+1⟩}:HD)with c:=upd (upd d.c k ⟨(d.c k).l,(d.c k).next+1⟩) k ((d.c k).put L rank)}:=by
   unfold HD.attach HC.attach;rw[dw ac2,dw bQ,aKN]
  rw[e];exact r1
 ·rcases r3 b hb with x|x
  ·exact .inl x
  ·exact .inr bQ
theorem aKQ(h:lC w D d vs qs dO)(k:Nat)(hk:k<3)(oa:Option Addr)(cap:Nat)(L:List Step)(rank:Int)(hcap:L.length≤cap)(hs:xY w oa (nth L) L.length)(hno:∀ a,oa=some a→¬kQ D vs qs a.block)(hin:∀ j,j<L.length→In64 (nth L j).off∧In64 (nth L j).num)(hg:vY w)
  (hnx:0≤(d.c k).next∧(d.c k).next<1000000) (hv:(verify (nth L) L.length).1.1=0) (h8:(d.c k).l.length<8) :
  Calls Tryz.prog 21 #[.pointer (some ⟨D,k*2,none⟩),.slice oa L.length cap,aU rank] w fun e w'=>e=.returned (.tuple #[aU ((d.c k).next+1),.nilIface]) ∧
   ∃ vs' iP,lC w' D (d.attach k L rank) vs' qs iP∧dQ (kQ D vs qs) w w'∧∀ b,kQ D vs' qs b→kQ D vs qs b∨w.heap.size≤b:=by
 obtain⟨og,cc,hvk⟩:=avp (h.chain k hk);have hpl:(dO k).length=(d.c k).l.length:=by rw[←(h.chain k hk).l,List.length_map]
 obtain⟨n,hn⟩:∃ n,(dO k).length=n:=⟨_,rfl⟩;rw[hn]at hvk;have hn8:n<8:=bQ;refine akg ?_;intro c0;have c1:=(h.img.cell (k*2+1) bQ).trans (congrArg some (Yq hk).2);rw[hvk]at c0;have g0:=h.img.free (k*2) bQ;have g1:=h.img.free (k*2+1) bQ;refine auy ?_;intro C1;have aKR:=bW hv;obtain⟨hl1,hl2⟩:=aeK hv;obtain⟨a,rfl,hcs⟩:=hs bQ;have HCS:=bW hcs;clear hcs;generalize verify (nth L) L.length=X at C1 hv;obtain⟨⟨er,p⟩,⟨lo,hi⟩⟩:=X;obtain rfl:er=0:=hv;have H:=bW h;have uS:=bW C1;have HS:=bW hs;have Oz:=bW hin;have hD:=h.typed.lt;have k8:¬8≤(n:Int):=bQ;have HN:=bW hn;have HVK:=bW hvk;clear h C1 hs hin hpl hn hvk;go_enter Tryz.func21,Tryz.ntmps21;go_wp2_with fail;refine(uS.out _ (Below.refl _ _)).mono ?_;rintro e w1 ⟨v,rfl,he,hb⟩;obtain rfl:=avj he;clear he;simp only;go_upto_region 2 with fail;generalize hW:World.alloc w1 _=w2;have hb2:Below w.heap.size w w2:=hW▸(hb.alloc hb.size _);have c02:=(hb2.cell (p:=⟨D,k*2,none⟩) hD).trans c0;have c12:=(hb2.cell (p:=⟨D,k*2+1,none⟩) hD).trans c1;have g02:=(hb2.frozen (p:=⟨D,k*2,none⟩) hD).trans g0;have g12:=(hb2.frozen (p:=⟨D,k*2+1,none⟩) hD).trans g1;have HB2:=bW hb2;clear hW hb hb2 c0 c1 g0 g1;have hw1:IntKind.i64.wrap ((d.c k).next+1)=(d.c k).next+1:=X0;go_upto_region 7 with fail;obtain⟨hd3,hf3⟩:=(H.out.later HB2.out).aKK hk ((d.c k).next+1);generalize hW:World.setCell w2 _ _=w3 at hd3 hf3;have HD3:=bW hd3;have HF3:=bW ((dQ.of HB2.out (M:=fun b=>b=D)).trans hf3)
 have uw:=bW (show uP w3 ⟨(d.c k).l,(d.c k).next+1⟩ (vs k) (dO k)from by have:=hd3.chain k hk;simp only[upd_same]at this;exact this);have c03:=(hd3.img.cell (k*2) bQ).trans (congrArg some (Yq hk).1);rw[HVK.out]at c03;have c13:=(hd3.img.cell (k*2+1) bQ).trans (congrArg some (Yq hk).2);simp only[upd_same]at c13;have g03:=hd3.img.free (k*2) bQ;have hD3:=hd3.typed.lt;clear hW hd3 hf3 c02 c12 g02 g12 hw1;have uH:=bW (show(dO k).map (·.1)=(d.c k).l from uw.out.l);have hsr:=aKS (dO k) (vs k) rank ac3 0 w3 uw.out.row (by rw[uH.out];exact uw.out.sorted);rw[HVK.out,uH.out]at hsr;obtain⟨i,hi⟩:∃ i,hpos (d.c k).l rank=i:=⟨_,rfl⟩;rw[hi]at hsr;have hin:i≤n:=by
  have h1:i≤(d.c k).l.length:=hi▸List.findIdx_le_length;have h2:(dO k).length=(d.c k).l.length:=by rw[←uH.out,List.length_map]
  have:=HN.out;omega
 have HI:=bW hi;have HSR:=bW hsr;clear hi hsr;go_wp2_with fail;refine HSR.out.mono ?_;rintro e w4 ⟨rfl,hb⟩;have c04:=(hb.cell (p:=⟨D,k*2,none⟩) hD3).trans c03;have c14:=(hb.cell (p:=⟨D,k*2+1,none⟩) hD3).trans c13;have g04:=(hb.frozen (p:=⟨D,k*2,none⟩) hD3).trans g03;have HB4:=bW hb;have HF4:=bW (HF3.out.trans (dQ.of hb));have NC:=bW (HCS.out.fG HF4.out (fun e=>hno a rfl (.inl e)));have hD4:D<w4.heap.size:=Nat.lt_of_lt_of_le hD3 hb.size;clear hb c03 c13 g03;have hnd:(Value.slice og n cc).ownBlock≠some D:=fun e=>by
  have e':(vs k).ownBlock=some D:=by rw[HVK.out];exact e
  exact((kD uw.out.row D e').ne HD3.out.typed dS) rfl
 go_upto_region 8 with fail;go_region_with (first
   |(go_at_call 47;refine(aCC a L.length cap (nth L) hl2 _ ?_).mono ?_;(exact NC.out);rintro e w5 ⟨v5,rfl,vZ,hb5⟩;obtain⟨yG,cap5,rfl⟩:=pI vZ;have yj:=bW vZ;have yg:=bW (show Below w4.heap.size w4 w5 from⟨hb5.os,hb5.tape,hb5.output,hb5.size,hb5.block⟩);have avr:=ED (ED uw.out.row HB4.out) yg.out;rw[HVK.out,HN.out]at avr;have aCO:=bW avr;clear avr;have hD5:D<w5.heap.size:=Nat.lt_of_lt_of_le hD4 yg.out.size;have nD5:¬D=w5.heap.size:=bQ;have mD5:¬w5.heap.size=D:=bQ;have c05:=(yg.out.cell (p:=⟨D,k*2,none⟩) hD4).trans c04;have c15:=(yg.out.cell (p:=⟨D,k*2+1,none⟩) hD4).trans c14;have g05:=(yg.out.frozen (p:=⟨D,k*2,none⟩) hD4).trans g04;clear vZ hb5)
   |(go_at_call 46;refine(aKT 0 (.slice og n cc) n i (kV (dO k)) (yu (⟨(d.c k).next+1,rank,L,fun _=>0⟩,.slice yG L.length cap5)) w5.heap.size 1 _ _ hn8 hin (Nat.zero_le _) ?_ (aCN uw.out.code) ?_ (heap_alloc_new w5 _) rfl rfl (avl ⟨_,_,_,rfl⟩)).mono ?_;(exact aCO.out.alloc _);(exact fun e=>by have:=(aCO.out.lt _ e).2;omega);rintro e w6 ⟨v6,rfl,akH,hg6,ho6⟩;have HO6:=bW ho6;clear ho6;obtain⟨og6,cap6,rfl⟩:=pI akH;have hD6:w6.heap[D]?=w5.heap[D]?:=(hg6.block D eU (fun e=>hnd e.symm)).trans (Below.heap_alloc w5 _ D hD5);have c06:=(World.cell?_of_block (w:=w5) (a:=⟨D,k*2,none⟩) hD6).trans c05;have c16:=(World.cell?_of_block (w:=w5) (a:=⟨D,k*2+1,none⟩) hD6).trans c15;have g06:=(World.frozen?_of_block (w:=w5) (a:=⟨D,k*2,none⟩) hD6).trans g05;have ado:=bW akH;have HG6:=bW hg6;clear akH hg6 hD6))
 all_goals
  go_wp2_with fail;refine bodyPost_ret (v:=.tuple #[aU ((d.c k).next+1),.nilIface]) auK rfl ⟨rfl,?_⟩;exact aKO H.out hk HD3.out HF3.out HB4.out yg.out yj.out (by rw[HVK.out];exact HG6.out) ado.out (by rw[HVK.out];exact HO6.out) HN.out HI.out hn8 aKR.out
theorem aCP(p:Addr)(oa:Option Addr)(cap:Nat)(L:List Step)(rank:Int)(w:World)(hcap:L.length≤cap)(hs:xY w oa (nth L) L.length)(hin:∀ j,j<L.length→In64 (nth L j).off∧In64 (nth L j).num)(hg:vY w)(hv:(verify (nth L) L.length).1.1≠0) :
  Calls Tryz.prog 21 #[.pointer (some p),.slice oa L.length cap,aU rank] w fun e w'=>(∃ er,e=.returned (.tuple #[aU 0,er])∧rC w' er (verify (nth L) L.length).1.1 (verify (nth L) L.length).1.2)∧Below w.heap.size w w':=by
 have C1:=auz oa L.length cap (nth L) hcap w hs hin hg;generalize verify (nth L) L.length=X at C1 hv ⊢;obtain⟨⟨er,q⟩,⟨lo,hi⟩⟩:=X;have uS:=bW C1;have HV:=bW hv;clear C1 hs hin hg hv;go_enter Tryz.func21,Tryz.ntmps21;go_wp2_with fail;refine uS.out.mono ?_;rintro e w1 ⟨v,rfl,he,hb⟩;obtain⟨et,ex,rfl⟩:=aCD he HV.out;have HE:=bW (he.later ((Below.refl w1.heap.size w1).alloc (Nat.le_refl _) (.cells #[aU lo,aU hi] 130)));have HB:=bW hb;clear he hb;simp only;go_wp2_with fail;exact bodyPost_ret (v:=.tuple #[aU 0,.iface et ex]) auK rfl ⟨⟨_,rfl,HE.out⟩,HB.out.alloc HB.out.size _⟩
theorem aKU(h:lC w D d vs qs dO)(k:Nat)(hk:k<3)(oa:Option Addr)(cap:Nat)(L:List Step)(rank:Int)(hcap:L.length≤cap)(hs:xY w oa (nth L) L.length)(hin:∀ j,j<L.length→In64 (nth L j).off∧In64 (nth L j).num)(hg:vY w)
  (hv:(verify (nth L) L.length).1.1=0) (h8:8≤(d.c k).l.length) :
  Calls Tryz.prog 21 #[.pointer (some ⟨D,k*2,none⟩),.slice oa L.length cap,aU rank] w fun e w'=>e=.returned (.tuple #[aU 0,.iface 30 (aU 12)])∧Below w.heap.size w w':=by
 obtain⟨og,cc,hvk⟩:=avp (h.chain k hk);have hpl:(dO k).length=(d.c k).l.length:=by rw[←(h.chain k hk).l,List.length_map]
 refine akg ?_;intro c0;rw[hvk,hpl]at c0;have C1:=auz oa L.length cap (nth L) hcap w hs hin hg;generalize verify (nth L) L.length=X at C1 hv;obtain⟨⟨er,q⟩,⟨lo,hi⟩⟩:=X;obtain rfl:er=0:=hv;have uS:=bW C1;have hD:=h.typed.lt;have k8:8≤((d.c k).l.length:Int):=bQ;clear h C1 hs hin hg hpl;go_enter Tryz.func21,Tryz.ntmps21;go_wp2_with fail;refine uS.out.mono ?_;rintro e w1 ⟨v,rfl,he,hb⟩;obtain rfl:=avj he;have c01:=(hb.cell (p:=⟨D,k*2,none⟩) hD).trans c0;have hD1:D<w1.heap.size:=Nat.lt_of_lt_of_le hD hb.size;have HB:=bW hb;clear he hb c0;simp only;go_wp2_with fail;exact bodyPost_ret (v:=.tuple #[aU 0,.iface 30 (aU 12)]) auK rfl ⟨rfl,HB.out.alloc HB.out.size _⟩
theorem aKV(h:lC w D d vs qs dO)(k:Nat)(hk:k<3)(oa:Option Addr)(cap:Nat)(L:List Step)(rank:Int)(hcap:L.length≤cap)(hs:xY w oa (nth L) L.length)(hno:∀ a,oa=some a→¬kQ D vs qs a.block)(hin:∀ j,j<L.length→In64 (nth L j).off∧In64 (nth L j).num)(hg:vY w)
  (hnx:0≤(d.c k).next∧(d.c k).next<1000000) :
  Calls Tryz.prog 21 #[.pointer (some ⟨D,k*2,none⟩),.slice oa L.length cap,aU rank] w fun e w'=>(∃ er,e=.returned (.tuple #[aU ((d.c k).attach L rank).2.1,er])∧rC w' er ((d.c k).attach L rank).2.2.1 ((d.c k).attach L rank).2.2.2) ∧
   ∃ vs' iP,lC w' D (d.attach k L rank) vs' qs iP∧dQ (kQ D vs qs) w w'∧∀ b,kQ D vs' qs b→kQ D vs qs b∨w.heap.size≤b:=by
 have same:∀ x:HC × Int × (Int × Int),x.1=d.c k→(d.c k).attach L rank=x→d.attach k L rank=d:=fun x e1 e2=>by
  unfold HD.attach;rw[e2,e1];have:upd d.c k (d.c k)=d.c:=by
   exact asM
  rw[this]
 by_cases hv:(verify (nth L) L.length).1.1=0
 ·by_cases h8:(d.c k).l.length<8
  ·have e:(d.c k).attach L rank=((d.c k).put L rank,(d.c k).next+1,(0,-1)):=by unfold HC.attach;rw[dw ac2,dw bQ]
   rw[e];exact(aKQ h k hk oa cap L rank hcap hs hno hin hg hnx hv h8).mono fun e w' ⟨he,hp⟩=>⟨⟨_,he,.inl ⟨rfl,rfl,rfl⟩⟩,hp⟩
  ·have e:(d.c k).attach L rank=(d.c k,0,(12,-1)):=by unfold HC.attach;rw[dw ac2,dB bQ]
   rw[same _ rfl e,e];exact(aKU h k hk oa cap L rank hcap hs hin hg hv bQ).mono fun e w' ⟨he,hb⟩=>⟨⟨_,he,.inr (.inl ⟨show(12:Int)≠0 by decide,rfl,rfl⟩)⟩,vs,dO,h.later hb,dQ.of hb,fun b hb=>.inl hb⟩
 ·have e:(d.c k).attach L rank=(d.c k,0,(verify (nth L) L.length).1):=auU;rw[same _ rfl e,e];exact(aCP _ oa cap L rank w hcap hs hin hg hv).mono fun e w' ⟨⟨er,he,h1⟩,hb⟩=>⟨⟨er,he,h1⟩,vs,dO,h.later hb,dQ.of hb,fun b hb=>.inl hb⟩
end Go.Proofs.YtglilddlhibogaaGreatDoor.W
namespace Go.Proofs.YtglilddlhibogaaGreatDoor.W
open Go.RowKit Go.Proofs.YtglilddlhibogaaGreatDoor.P
theorem aB5(S:Nat→Step)(n:Nat)(told cells:Nat→Int)(time:Int):outcome S n told cells time=Qq S n told cells time:=rfl
theorem anT{g:Nat}{t:TypeId}{fz:Nat × Nat}:∀ (vs:List Value) (o:Nat) (w:World) (cur:Array Value),w.heap[g]?=some (.cells cur t fz)→o+vs.length≤cur.size →
  (w.setCells g o vs).heap[g]?=some (.cells (cur.toList.take o++vs++cur.toList.drop (o+vs.length)).toArray t fz)
 |[],o,w,cur,h,hl=>by
  rw[World.setCells,h];simp
 |v::vs,o,w,cur,h,hl=>by
  rw[World.setCells];have hs:(w.setCell ⟨g,o,none⟩ v).heap[g]?=some (.cells (cur.setIfInBounds o v) t fz):=by simp[World.setCell,Array.getElem?_modify,h]
  rw[anT vs (o+1) _ _ hs (by simp at hl ⊢;omega)];have ho:o<cur.toList.length:=by simp at hl ⊢;omega
  congr 3
  rw[Array.toList_setIfInBounds];have e1:(cur.toList.set o v).take (o+1)=cur.toList.take o++[v]:=by
   rw[List.take_succ_eq_append_getElem (by simpa using ho),List.take_set_of_le (Nat.le_refl _),List.getElem_set_self]
  have e2:(cur.toList.set o v).drop (o+1+vs.length)=cur.toList.drop (o+(v::vs).length):=by
   rw[List.drop_set_of_lt bQ,List.length_cons];congr 1;omega
  rw[e1,e2];simp
theorem aqJ{l:List (HP × Value)}{i:Nat}{x y:HP × Value}(h:l[i]?=some x):kV (l.set i y)=(kV l).take (i*19)++yu y++(kV l).drop ((i+1)*19):=by
 have hi:i<l.length:=(List.getElem?_eq_some_iff.1 h).1;unfold kV;rw[arp aa6,arq aa6,List.set_eq_take_append_cons_drop,dB hi,List.flatMap_append,List.flatMap_cons,List.append_assoc]
def lV(f:Nat→Int):List Value:=[aU (f 0),aU (f 1),aU (f 2),aU (f 3),aU (f 4),aU (f 5),aU (f 6),aU (f 7),aU (f 8),aU (f 9),aU (f 10),aU (f 11),aU (f 12),aU (f 13),aU (f 14),aU (f 15)]
theorem aaP(f:Nat→Int):(lV f).length=16:=rfl
theorem aDa(x:HP × Value):yu x=[aU x.1.id,aU x.1.rank,x.2]++lV x.1.cells:=rfl
theorem aLp{w:World}{g n cap:Nat}{l:List (HP × Value)}(h:w.ownsRow 0 106 19 (.slice (some ⟨g,0,none⟩) n cap) n (kV l)){i:Nat}{x:HP × Value}(hi:l[i]?=some x)(f:Nat→Int) :
  (w.setCells g (i*19+3) (lV f)).ownsRow 0 106 19 (.slice (some ⟨g,0,none⟩) n cap) n (kV (l.set i ({ x.1 with cells:=f},x.2))):=by
 have hil:i<l.length:=(List.getElem?_eq_some_iff.1 hi).1;have hlen:=adl l;have hn:l.length=n:=by have:=h.1;rw[adl]at this;omega
 have hpart:∃ cur:Array Value,w.heap[g]?=some (.cells cur 106 (0,0))∧n≤cap∧cap≤maxLen∧cur.size=cap*19∧cur.toList.take (n*19)=kV l:=by
  exact aBq
 obtain⟨cur,hg,hc,hm,hs,hx⟩:=hpart;have hcl:cur.toList.length=cap*19:=aqn;have hdec:kV l=(kV l).take (i*19)++(yu x++(kV l).drop ((i+1)*19)):=by
  have e:=aqJ (y:=x) hi;rw[List.append_assoc]at e;have es:l.set i x=l:=by
   apply List.ext_getElem?;intro j;rw[List.getElem?_set];split
   ·rename_i h;subst h;rw[List.getElem?_eq_getElem hil]at hi ⊢;injection hi with hi;simp[hil,hi]
   ·rfl
  rwa [es]at e
 have hA:((kV l).take (i*19)).length=i*19:=by rw[List.length_take,hlen];omega
 have ht3:(kV l).take (i*19+3)=(kV l).take (i*19)++[aU x.1.id,aU x.1.rank,x.2]:=by
  have aux:∀ (A C:List Value),A.length=i*19→(A++(yu x++C)).take (i*19+3)=A++[aU x.1.id,aU x.1.rank,x.2]:=fun A C h=>by
   rw[List.take_append,h,List.take_of_length_le (by rw[h];omega),show i*19+3-i*19=3 by omega];rfl
  have:=aux _ ((kV l).drop ((i+1)*19)) hA;rw[←hdec]at this;exact this
 have key:kV (l.set i ({ x.1 with cells:=f},x.2))=(kV l).take (i*19+3)++lV f++(kV l).drop (i*19+3+16):=by
  rw[aqJ hi,ht3,aDa,List.append_assoc ((kV l).take (i*19)),show i*19+3+16=(i+1)*19 by omega];simp[List.append_assoc]
 have ha:i*19+3+(lV f).length≤cur.size:=by rw[aaP,hs];omega
 refine⟨by rw[adl,List.length_set,hn],.inr ⟨g,cap,_,rfl,Nat.zero_le _,anT _ _ _ _ hg ha,hc,hm,?_,?_⟩⟩
 ·rw[aaP];simp only[List.size_toArray,List.length_append,List.length_take,List.length_drop,hcl,aaP];omega
 ·rw[aaP,key];show List.take (n*19) (cur.toList.take (i*19+3)++lV f++cur.toList.drop (i*19+3+16))=_;have h3:(kV l).take (i*19+3)=cur.toList.take (i*19+3):=by rw[←hx,List.take_take];congr 1;omega
  have h4:(kV l).drop (i*19+3+16)=(cur.toList.drop (i*19+3+16)).take (n*19-(i*19+3+16)):=by rw[←hx,List.drop_take]
  have hl1:(cur.toList.take (i*19+3)++lV f).length=i*19+3+16:=by rw[List.length_append,List.length_take,hcl,aaP];omega
  rw[List.take_append,hl1,List.take_of_length_le (by rw[hl1];omega),h3,h4]
theorem dQ.apA{M:Nat→Prop}{w wr:World}(h:dQ M w wr){p:Addr}(hp:w.heap.size≤p.block)(u:Value):dQ M w (wr.setCell p u) :=
 ⟨h.os,h.tape,h.output,by simpa using h.size,fun k hk ne=>(Below.heap_setCell _ _ _ _ bQ).trans (h.block k hk ne)⟩
theorem aLq(told:Nat→Int)(time:Int)(s:Sd):hrun told time [] s=([],s):=rfl
theorem X7{W:World}{b g a:Nat}{told:Nat→Int}{xp:HP}{xv:Value}(hT:P.Img W b 8 (fun j=>([aU (told 0),aU (told 1),aU (told 2),aU (told 3),aU (told 4),aU (told 5),aU (told 6),aU (told 7)]:List Value).getD j undef))(hR:W.rangeAt g a (yu (xp,xv))) :
  W.cell? ⟨b,0,none⟩=some (aU (told 0))∧W.cell? ⟨b,1,none⟩=some (aU (told 1))∧W.cell? ⟨b,2,none⟩=some (aU (told 2))∧W.cell? ⟨b,3,none⟩=some (aU (told 3))∧W.cell? ⟨b,4,none⟩=some (aU (told 4))∧W.cell? ⟨b,5,none⟩=some (aU (told 5))∧W.cell? ⟨b,6,none⟩=some (aU (told 6))∧W.cell? ⟨b,7,none⟩=some (aU (told 7)) ∧
  W.cell? ⟨g,a+2,none⟩=some xv∧W.cell? ⟨g,a+3,none⟩=some (aU (xp.cells 0))∧W.cell? ⟨g,a+3+1,none⟩=some (aU (xp.cells 1))∧W.cell? ⟨g,a+3+2,none⟩=some (aU (xp.cells 2))∧W.cell? ⟨g,a+3+3,none⟩=some (aU (xp.cells 3))∧W.cell? ⟨g,a+3+4,none⟩=some (aU (xp.cells 4))∧W.cell? ⟨g,a+3+5,none⟩=some (aU (xp.cells 5))∧W.cell? ⟨g,a+3+6,none⟩=some (aU (xp.cells 6))∧W.cell? ⟨g,a+3+7,none⟩=some (aU (xp.cells 7)) ∧
  W.cell? ⟨g,a+3+8,none⟩=some (aU (xp.cells 8))∧W.cell? ⟨g,a+3+9,none⟩=some (aU (xp.cells 9))∧W.cell? ⟨g,a+3+10,none⟩=some (aU (xp.cells 10))∧W.cell? ⟨g,a+3+11,none⟩=some (aU (xp.cells 11))∧W.cell? ⟨g,a+3+12,none⟩=some (aU (xp.cells 12))∧W.cell? ⟨g,a+3+13,none⟩=some (aU (xp.cells 13))∧W.cell? ⟨g,a+3+14,none⟩=some (aU (xp.cells 14))∧W.cell? ⟨g,a+3+15,none⟩=some (aU (xp.cells 15)) :=
 ⟨hT.cell 0 bQ,hT.cell 1 bQ,hT.cell 2 bQ,hT.cell 3 bQ,hT.cell 4 bQ,hT.cell 5 bQ,hT.cell 6 bQ,hT.cell 7 bQ,hR 2 _ rfl,hR 3 _ rfl,hR 4 _ rfl,hR 5 _ rfl,hR 6 _ rfl,hR 7 _ rfl,hR 8 _ rfl,hR 9 _ rfl,hR 10 _ rfl,hR 11 _ rfl,hR 12 _ rfl,hR 13 _ rfl,hR 14 _ rfl,hR 15 _ rfl,hR 16 _ rfl,hR 17 _ rfl,hR 18 _ rfl⟩
theorem aLr{w:World}{xp:HP}{Ey:Option Addr}{cn Ez:Nat}(h:QH w (xp,.slice Ey cn Ez)):cn=xp.code.length∧cn≤Ez∧xY w Ey (nth xp.code) cn:=by
 have hr:=h;rcases h.2 with ⟨hv,h0⟩|⟨g,c,cur,hv,_,_,hc,_⟩
 ·injection hv with h1 h2 h3
  simp only at h0;exact⟨by omega,by omega,fun h=>by omega⟩
 ·injection hv with h1 h2 h3
  simp only at h2 hc;subst h1;subst h3;refine⟨h2,by omega,fun _=>⟨_,rfl,?_⟩⟩;rw[h2]at hr ⊢;exact ayx rfl hr
theorem an7{W W':World}{B b o:Nat}{cs:List Value}(h:W.rangeAt b o cs)(hb:Below B W W')(hl:b<B):W'.rangeAt b o cs:=fun j v hv=>(hb.cell (p:=⟨b,o+j,none⟩) hl).trans (h j v hv)
theorem afY{w:World}{c:Array Value}{t:TypeId}{n:Nat}(h:c.size=n):(w.alloc (.cells c t (0,0))).there w.heap.size 0 n:=by
 subst h;refine Yj (I:=fun j=>c.getD j undef) (Img.of_cells (heap_alloc_new w _) rfl fun j hj=>?_);simp[hj]
theorem DY(g:Nat):∀ (vs:List Value) (o:Nat) (w:World),dQ (fun b=>b=g) w (w.setCells g o vs)
 |[],_,w=>dQ.refl _ w
 |v::vs,o,w=>(show dQ (fun b=>b=g) w (w.setCell ⟨g,o,none⟩ v)from⟨rfl,rfl,rfl,by simp,fun b _ hb=>Below.heap_setCell _ _ _ _ hb⟩).trans (DY g vs (o+1) _)
theorem avt{w:World}{c:Array Value}{t:TypeId}{n:Nat}(h:c.size=n):(w.alloc (.cells c t (0,0))).drew.there w.heap.size 0 n:=fun j hj=>afY h j hj
theorem ars{W W':World}{B b o n:Nat}(h:W.there b o n)(hb:Below B W W')(hl:b<B):W'.there b o n:=fun j hj=>by
 obtain⟨h1,h2⟩:=h j hj;exact⟨by rw[hb.cell (p:=⟨b,o+j,none⟩) hl];exact h1,by rw[hb.frozen (p:=⟨b,o+j,none⟩) hl];exact h2⟩
theorem agY{w:World}{b:Nat}{vs:List Value}(ht:w.there b 0 vs.length):P.Img (w.setCells b 0 vs) b vs.length (fun j=>vs.getD j undef):=by
 intro j hj;have h:=World.rangeAt_setCells_same w b 0 vs ht j (vs.getD j undef) (by simp[hj]);rw[Nat.zero_add]at h;refine⟨h,?_⟩;rw[World.frozen?_setCells];have:=(ht j hj).2;rwa [Nat.zero_add]at this
theorem QC{w:World}{b n g o:Nat}{I:Nat→Value}{vs:List Value}(h:P.Img w b n I)(hne:b≠g):P.Img (w.setCells g o vs) b n I:=by
 intro j hj;refine⟨?_,?_⟩
 ·rw[World.cell?_setCells_out g vs o w ⟨b,j,none⟩ (fun e=>absurd e hne)];exact h.cell j hj
 ·rw[World.frozen?_setCells];exact h.free j hj
def YF(num:Int)(f:Nat→Int)(out:Value)(st:Int):List Value:=[aU num,aU (f 0),aU (f 1),aU (f 2),aU (f 3),aU (f 4),aU (f 5),aU (f 6),aU (f 7),aU (f 8),aU (f 9),aU (f 10),aU (f 11),aU (f 12),aU (f 13),aU (f 14),aU (f 15),out,aU st]
theorem aPw(num:Int)(f:Nat→Int)(og:Option Addr)(n c:Nat)(st:Int):(YF num f (.slice og n c) st).toArray.all (·.oneCell')=true:=by
 refine all_oneCell_toArray fun v hv=>?_;exact aAv
theorem aBr(num:Int)(f:Nat→Int)(og:Option Addr)(n c:Nat)(st:Int):∀ v∈YF num f (.slice og n c) st,v.oneCell'=true:=by
 intro v hv;exact aAv
theorem aB7{P:Program}{w:World}{b o:Nat}{vs:List Value}(ht:w.there b o vs.length)(h1:∀ v∈vs,v.oneCell'=true):(storeCells ⟨b,o,none⟩ vs 0).run P w=.ok () (w.setCells b o vs):=by
 have:=run_storeCells_cells (P:=P) b o vs 0 w (fun j hj=>by simpa using (ht j hj).1) (fun j hj=>by simpa using (ht j hj).2) h1;simpa using this
theorem WJ{P:Program}{w:World}{b:Nat}{arr:Array Value}(ht:w.there b 0 arr.size)(h1:∀ v∈arr.toList,v.oneCell'=true):(storeCells ⟨b,0,none⟩ arr.toList 0).run P w=.ok () (w.setCells b 0 arr.toList):=by
 have:=run_storeCells_cells (P:=P) b 0 arr.toList 0 w (fun j hj=>by simpa using (ht j (by simpa using hj)).1) (fun j hj=>by simpa using (ht j (by simpa using hj)).2) h1;simpa using this
theorem anG(f:Nat→Int):(Tryz.prog.info? 55).map (·.size)=some (lV f).length:=dF
theorem aqz(f:Nat→Int):∀ v∈lV f,v.oneCell'=true:=by
 intro v hv;simp only[lV,List.mem_cons,List.not_mem_nil,or_false]at hv;rcases hv with rfl|rfl|rfl|rfl|rfl|rfl|rfl|rfl|rfl|rfl|rfl|rfl|rfl|rfl|rfl|rfl<;>rfl
theorem aCa(l:List Int):∀ v∈l.map (Value.int .i64),v.oneCell'=true:=by
 intro v hv;obtain⟨x,_,rfl⟩:=List.mem_map.1 hv;rfl
theorem aLs{w:World}{g n cap:Nat}{l:List (HP × Value)}(h:w.ownsRow 0 106 19 (.slice (some ⟨g,0,none⟩) n cap) n (kV l)){i:Nat}{x:HP × Value}(hi:l[i]?=some x):w.there g (i*19+3) 16:=by
 have hil:i<l.length:=(List.getElem?_eq_some_iff.1 hi).1;have hn:l.length=n:=by have:=h.1;rw[adl]at this;omega
 have hpart:∃ cur:Array Value,w.heap[g]?=some (.cells cur 106 (0,0))∧n≤cap∧cur.size=cap*19:=by
  exact aAj
 obtain⟨cur,hg,hc,hs⟩:=hpart;intro j hj;refine⟨?_,by simp[World.frozen?,hg]⟩;rw[cell_of_row w g (i*19+3+j) cur 106 (0,0) hg,Array.getElem?_eq_getElem (by rw[hs];omega)];rfl
theorem ach{W:World}{b o:Nat}{cs:List Value}(h:W.rangeAt b o cs){x:Obj}:(W.alloc x).rangeAt b o cs:=fun j v hv=>by
 have:=h j v hv;exact(World.cell?_of_block (w:=W) (a:=⟨b,o+j,none⟩) (Below.heap_alloc W x b (block_lt_of_cell this))).trans this
theorem aB8{S:Nat→Step}{n:Nat}{told cells:Nat→Int}{time:Int}{M:dM}{num st:Int}(h:Qq S n told cells time=.inr (M,num,st)):M.out.length≤50:=by
 unfold Qq at h;split at h
 ·cases h
 split at h
 ·cases h
 ·exact aCA S told time n _ 0 1 (by simp[dM.init]) h
theorem aB9(B:Nat)(v:Value)(n:Nat)(xs:List Value)(u:Value)(B0 m:Nat)(news:List Value)(w:World)(hB:B≤w.heap.size)(hown:w.ownsRow B 2 1 v n xs)(hu:w.ownsRow B0 2 1 u m news)(h1:∀ u∈news,u.oneCell'=true)(hs:n+m≤1000) :
  ∃ v' w',(Builtin.append_ #[94,94] 94 #[v,u]).run Tryz.prog w=.ok v' w'∧w'.ownsRow B 2 1 v' (n+m) (xs++news)∧w.grownBy w' v.ownBlock:=by
 obtain⟨i0,hi0,hz0,hz1,hz2⟩:=info_parts avv;rcases hu.2 with ⟨rfl,rfl⟩|⟨g,cap,cur,rfl,hbg,hg,hcap,hmax,hcs,hxs⟩
 ·have:news=[]:=List.eq_nil_of_length_eq_zero (by have:=hu.1;omega);subst this;exact⟨v,w,run_append_owned_none (P:=Tryz.prog) (w:=w) B _ _ _ i0 1 Tryz.underlying94 hi0 v n xs hown,by simpa using hown,⟨rfl,rfl,rfl,Nat.le_refl _,fun _ _ _=>rfl⟩⟩
 ·have hl:news.length=m*1:=hu.1;obtain⟨v',w',hr,h2,h3,_,_⟩:=run_append_own_at (P:=Tryz.prog) (w:=w) B 94 94 2 i0 _ 1 8 Tryz.underlying94 hi0 hz0 hz1 hz2 rfl dS v n xs hown ⟨g,0,none⟩ m cap news hl (fun j x hj=>by
   have ea:w.cell? (Addr.add ⟨g,0,none⟩ j)=w.cell? ⟨g,j,none⟩:=by
    simp[Addr.add]
    split<;>simp_all
   rw[ea,cell_of_row w g j cur 2 (0,0) hg]
   rw[←hxs,List.getElem?_take]at hj
   split at hj
   ·simpa using hj
   ·cases hj) h1 JF bQ hB
  exact⟨v',w',hr,h2,h3⟩
theorem avw(told:Nat→Int)(time:Int):∀ (l:List HP) (s:Sd),(hrun told time l s).1.map (·.rank)=l.map (·.rank)
 |[],_=>rfl
 |p::t,s=>by
  rw[hrun];cases ho:Qq (nth p.code) p.code.length told p.cells time with
  |inl e=>simp[avw told time t s]
  |inr r =>
   obtain⟨M,num,st⟩:=r;simp only;split
   ·simp
   ·simp[avw told time t _]
theorem aCB{l l':List HP}(h:l'.map (·.rank)=l.map (·.rank))(hs:Sorted l):Sorted l':=by
 intro i j p q hij hp hq;have ei:(l.map (·.rank))[i]?=some p.rank:=by rw[←h,List.getElem?_map,hp];rfl
 have ej:(l.map (·.rank))[j]?=some q.rank:=by rw[←h,List.getElem?_map,hq];rfl
 rw[List.getElem?_map]at ei ej;cases h1:l[i]? with
 |none=>rw[h1]at ei;cases ei
 |some x =>
  cases h2:l[j]? with
  |none=>rw[h2]at ej;cases ej
  |some y =>
   rw[h1]at ei;rw[h2]at ej;simp only[Option.map_some,Option.some.injEq]at ei ej;rw[←ei,←ej];exact hs i j x y hij h1 h2
theorem avx{P:Program}{w:World}{fn:Func}{tmps:Array Value}{a:Nat}{ty:TypeId}(hr:fn.results=#[.cell a ty]){p:Addr}(ha:tmps.getD a undef=.pointer (some p)){v:Value}
  (hl:(loadVar ty p).run P w=.ok v w):(results fn tmps).run P w=.ok v w:=by
 rw[Array.getD_eq_getD_getElem?]at ha;unfold results;rw[hr];simp[asAddr,ha,hl,Sem.run_bind,Sem.run_pure]
theorem aDb{W:World}{b:Nat}{x y z:Int}{o:Value}(h:P.Img W b 4 (fun j=>([aU x,aU y,o,aU z]:List Value).getD j undef)):(loadVar 96 ⟨b,0,none⟩).run Tryz.prog W=.ok (.agg #[aU x,aU y,o,aU z]) W :=
 run_loadVar_mid W b 0 _ [aU x,aU y,o,aU z] _ (fun j v hv=>by
  have hj:j<4:=aoG
  rw[Nat.zero_add,h.cell j hj,←hv]
  rcases j with _|_|_|_|j
  all_goals first|rfl|omega) Tryz.underlying96 rfl dF
theorem aqA{W:World}{b:Nat}{I:Nat→Value}(h:P.Img W b 4 I)(x y z:Int)(o:Value):P.Img ((((W.setCell ⟨b,0,none⟩ (aU x)).setCell ⟨b,1,none⟩ (aU y)).setCell ⟨b,2,none⟩ o).setCell ⟨b,3,none⟩ (aU z)) b 4 (fun j=>([aU x,aU y,o,aU z]:List Value).getD j undef) ∧
  dQ (fun k=>k=b) W ((((W.setCell ⟨b,0,none⟩ (aU x)).setCell ⟨b,1,none⟩ (aU y)).setCell ⟨b,2,none⟩ o).setCell ⟨b,3,none⟩ (aU z)):=by
 refine⟨((((h.set (j:=0) bQ _).set (j:=1) bQ _).set (j:=2) bQ _).set (j:=3) bQ _).congr fun j hj=>?_,DY b [aU x,aU y,o,aU z] 0 W⟩;have hj':j=0∨j=1∨j=2∨j=3:=bQ;rcases hj' with rfl|rfl|rfl|rfl<;>rfl
structure TP(w w1:World)(c:HC)(told:Nat→Int)(time:Int)(n:Nat)(v:Value)(i:Nat)(pre:List HP)(s:Sd)(out:Value)(pl:List (HP × Value))(wr:World):Prop where
 le:i≤n
 oW:s.oW=0
 num:s.num=0
 run:hrun told time c.l .zero=(pre++(hrun told time (c.l.drop i) s).1,(hrun told time (c.l.drop i) s).2)
 l:pl.map (·.1)=pre++c.l.drop i
 akM:pre.length=i
 row:wr.ownsRow 0 106 19 v n (kV pl)
 code:∀ x∈pl,QH w x
 said:P.Img wr (w.heap.size+1+1) 4 (fun j=>([aU 0,aU 0,out,aU s.steps]:List Value).getD j undef)
 out:wr.ownsRow w1.heap.size 2 1 out s.out.length (s.out.map (Value.int .i64))
 few:s.out.length≤50*i
 steps:0≤s.steps∧s.steps≤200*i
 told:P.Img wr w.heap.size 8 (fun j=>([aU (told 0),aU (told 1),aU (told 2),aU (told 3),aU (told 4),aU (told 5),aU (told 6),aU (told 7)]:List Value).getD j undef)
 res:P.Img wr (w.heap.size+1) 4 (fun j=>([aU 0,aU 0,.slice none 0 0,aU 0]:List Value).getD j undef)
 fG:dQ (fun b=>v.ownBlock=some b) w wr
 later:w1.heap.size≤wr.heap.size
section
variable{w w1:World}{c:HC}{told:Nat→Int}{time:Int}{n:Nat}{v:Value}{i:Nat}{pre:List HP}{s:Sd}{out:Value}{pl:List (HP × Value)}{wr:World}
theorem TP.aLt(h:TP w w1 c told time n v i pre s out pl wr)(hg:vY w)(hne:v.ownBlock≠some 5):vY wr:=h.fG.cell hg hne
theorem QH.fG{x:HP × Value}{M:Nat→Prop}{W W':World}(h:QH W x)(hf:dQ M W W')(hM:∀ k,Typed W k 110→¬M k):QH W' x:=dQ.row hf h fun k hk=>hM k (kD h k hk)
theorem TP.aDc(h:TP w w1 c told time n v i pre s out pl wr)(hv:∀ k,v.ownBlock=some k→Typed w k 106):∀ x∈pl,QH wr x:=fun x hx =>
 (h.code x hx).fG h.fG fun k hk e=>(hk.ne (hv k e) dS) rfl
theorem run_end(hc:uP w c v pl)(hn:pl.length=n){W:World}{jQ:List (HP × Value)}(hl:jQ.map (·.1)=(hrun told time c.l .zero).1)(hrow:W.ownsRow 0 106 19 v n (kV jQ))(hcode:∀ x∈jQ,QH w x)(hf:dQ (fun b=>v.ownBlock=some b) w W) :
  uP W ⟨(hrun told time c.l .zero).1,c.next⟩ v jQ:=by
 have hlen:jQ.length=n:=by have:=hrow.1;rw[adl]at this;omega
 refine⟨hl,by rw[hlen];exact hrow,fun x hx=>(hcode x hx).fG hf fun k hk e=>(hk.ne (kD hc.row k e) dS) rfl,aCB (avw told time c.l .zero) hc.sorted,by rw[hlen,←hn];exact hc.short⟩
theorem aDd(hc:uP w c v pl)(hn:pl.length=n)(h1:w1.heap.size=w.heap.size+1+1+1){W W':World}(PF:dQ (fun k=>k=w.heap.size+1) W W')(hf:dQ (fun b=>v.ownBlock=some b) w W){jQ:List (HP × Value)}{l':List HP}{s':Sd}{o:Value}(hR:hrun told time c.l .zero=(l',s'))(hl:jQ.map (·.1)=l')
  (hrow:W.ownsRow 0 106 19 v n (kV jQ)) (hcode:∀ x∈jQ,QH w x) (hout:W.ownsRow w1.heap.size 2 1 o s'.out.length (s'.out.map (Value.int .i64))) :
  W'.ownsRow w.heap.size 2 1 o (hrun told time c.l .zero).2.out.length ((hrun told time c.l .zero).2.out.map (Value.int .i64))∧uP W' ⟨(hrun told time c.l .zero).1,c.next⟩ v jQ∧dQ (fun b=>v.ownBlock=some b) w W':=by
 have hfr:dQ (fun b=>v.ownBlock=some b) w W':=((hf.mono (M':=fun b=>v.ownBlock=some b∨b=w.heap.size+1) fun k _ e=>.inl e).trans (PF.mono fun k _ e=>.inr e)).mono fun k hk e=>e.elim id fun e=>by omega
 have hrow':=PF.row hrow fun k hk (e:k=w.heap.size+1)=>by have:=(hc.row.lt k hk).2;omega
 have aLu:=World.ownsRow.mono (base':=w.heap.size) (PF.row hout fun k hk (e:k=w.heap.size+1)=>by have:=(hout.lt k hk).1;omega) bQ;exact⟨by rw[hR];exact aLu,run_end hc hn (by rw[hR];exact hl) hrow' hcode hfr,hfr⟩
theorem TP.split(h:TP w w1 c told time n v i pre s out pl wr){x:HP × Value}(hx:pl[i]?=some x):c.l.drop i=x.1::c.l.drop (i+1):=by
 have e:(pl.map (·.1))[i]?=some x.1:=by rw[List.getElem?_map,hx];rfl
 rw[h.l,List.getElem?_append_right (by simp[h.akM]),h.akM,Nat.sub_self]at e;rw[List.getElem?_drop,Nat.add_zero]at e;obtain⟨hi,he⟩:=List.getElem?_eq_some_iff.1 e;rw[List.drop_eq_getElem_cons hi,he]
theorem TP.aLv(h:TP w w1 c told time n v i pre s out pl wr){x:HP × Value}(hx:pl[i]?=some x)(y:HP × Value):(pl.set i y).map (·.1)=pre++y.1::c.l.drop (i+1):=by
 rw[List.map_set,h.l,h.split hx,List.set_append_right _ _ (by simp[h.akM]),h.akM,Nat.sub_self];rfl
theorem TP.aLw(h:TP w w1 c told time n v i pre s out pl wr){xp:HP}{xv:Value}(hx:pl[i]?=some (xp,xv))(f:Nat→Int):∀ x∈pl.set i ({ xp with cells:=f},xv),QH w x:=fun x hm=>by
 rcases List.mem_or_eq_of_mem_set hm with hm|rfl
 ·exact h.code x hm
 ·exact(h.code (xp,xv) (List.mem_of_getElem? hx):QH w (xp,xv))
end
end Go.Proofs.YtglilddlhibogaaGreatDoor.W
namespace Go.Proofs.YtglilddlhibogaaGreatDoor.W
open Go.RowKit Go.Proofs.YtglilddlhibogaaGreatDoor.P
theorem lC.ran{w W':World}{D:Nat}{d:HD}{vs qs:Nat→Value}{dO:Nat→List (HP × Value)}(h:lC w D d vs qs dO){k:Nat}(hk:k<3)(hf:dQ (fun b=>(vs k).ownBlock=some b) w W'){c':HC}{jQ:List (HP × Value)}(hq:uP W' c' (vs k) jQ)(hnext:c'.next=(d.c k).next) :
  lC W' D { d with c:=upd d.c k c'} vs qs (upd dO k jQ):=by
 have hv:=kD (h.chain k hk).row;refine⟨(hf.img h.img bQ fun e=>(hv D e).ne h.typed dS rfl).congr fun j hj=>?_,?_,fun j hj=>?_,fun j hj=>(h.queue j hj).fG hf fun b hb e=>((h.queue j hj).typed b hb).ne (hv b e) dS rfl,h.Y4,h.Td⟩
 ·unfold Cm;by_cases h6:j<6
  ·rw[dB h6,dB h6];by_cases h2:j%2=0
   ·rw[dB h2,dB h2]
   ·rw[dw h2,dw h2];by_cases h3:j/2=k
    ·subst h3;simp only[upd_same,hnext]
    ·simp only[fB h3]
  ·rw[dw h6,dw h6]
 ·obtain⟨c,hc⟩:=h.typed;exact⟨c,(hf.block D h.typed.lt fun e=>(hv D e).ne h.typed dS rfl).trans hc⟩
 ·by_cases e:j=k
  ·subst e;simp only[upd_same];exact hq
  ·simp only[fB e];exact(h.chain j hj).fG hf (fun b hb e2=>h.Y4 j k b hj hk e hb e2) fun b ht e2=>ht.ne (hv b e2) dS rfl
theorem lC.amo{w:World}{D:Nat}{d d':HD}{vs qs:Nat→Value}{dO:Nat→List (HP × Value)}(h:lC w D d vs qs dO){o:Nat}(ho:o<16){u:Value}(hc:d'.c=d.c)(hq:d'.q=d.q)(hi:∀ j,j<16→upd (Cm d vs qs) o u j=Cm d' vs qs j) :
  lC (w.setCell ⟨D,o,none⟩ u) D d' vs qs dO∧dQ (fun b=>b=D) w (w.setCell ⟨D,o,none⟩ u):=by
 have hfs:dQ (fun b=>b=D) w (w.setCell ⟨D,o,none⟩ u):=⟨rfl,rfl,rfl,by simp,fun b _ hb=>Below.heap_setCell _ _ _ _ hb⟩;refine⟨⟨(h.img.set ho _).congr hi,Qm h.typed _ _,fun j hj=>?_,fun j hj=>?_,h.Y4,h.Td⟩,hfs⟩
 ·rw[hc];exact(h.chain j hj).fG hfs (fun b hb e=>((kD (h.chain j hj).row b hb).ne h.typed dS) e) (fun b ht e=>(ht.ne h.typed dS) e)
 ·rw[hq];exact aBA
theorem lC.aJZ{w:World}{D:Nat}{d:HD}{vs qs:Nat→Value}{dO:Nat→List (HP × Value)}(h:lC w D d vs qs dO){k:Nat}(hk:k<3)(x:Int) :
  lC (w.setCell ⟨D,12+k,none⟩ (aU x)) D { d with left:=upd d.left k x} vs qs dO∧dQ (fun b=>b=D) w (w.setCell ⟨D,12+k,none⟩ (aU x)):=by
 refine h.amo bQ rfl rfl fun j hj=>?_;by_cases e:j=12+k
 ·subst e;rw[upd_same];unfold Cm;rw[dw bQ,dw bQ,dw bQ,dB bQ,show 12+k-12=k by omega];simp only[upd_same]
 ·rw[fB e];unfold Cm;by_cases h6:j<6
  ·rw[dB h6,dB h6]
  rw[dw h6,dw h6];by_cases h9:j<9
  ·rw[dB h9,dB h9]
  rw[dw h9,dw h9];by_cases h12:j<12
  ·rw[dB h12,dB h12]
  rw[dw h12,dw h12];by_cases h15:j<15
  ·rw[dB h15,dB h15];simp only[fB (show j-12≠k by omega)]
  ·rw[dw h15,dw h15]
theorem lC.aJ0{w:World}{D:Nat}{d:HD}{vs qs:Nat→Value}{dO:Nat→List (HP × Value)}(h:lC w D d vs qs dO)(x:Int) :
  lC (w.setCell ⟨D,15,none⟩ (aU x)) D { d with time:=x} vs qs dO∧dQ (fun b=>b=D) w (w.setCell ⟨D,15,none⟩ (aU x)):=by
 refine h.amo bQ rfl rfl fun j hj=>?_;by_cases e:j=15
 ·subst e;rw[upd_same];rfl
 ·rw[fB e];unfold Cm;by_cases h6:j<6
  ·rw[dB h6,dB h6]
  rw[dw h6,dw h6];by_cases h9:j<9
  ·rw[dB h9,dB h9]
  rw[dw h9,dw h9];by_cases h12:j<12
  ·rw[dB h12,dB h12]
  rw[dw h12,dw h12,dB bQ,dB bQ]
theorem Et.tail{w:World}{e:Nat→Int}{r:List (Nat→Int)}{v:Value}(h:Et w (e::r) v):∃ g o cap,v=.slice (some ⟨g,o*8,none⟩) (r.length+1) cap∧r.length+1≤cap∧cap≤maxLen∧w.rangeAt g (o*8) (t8 e)∧Et w r (.slice (some ⟨g,(o+1)*8,none⟩) r.length (cap-1)):=by
 obtain⟨og,cap,rfl,h2,h3,h4⟩:=h;simp only[List.length_cons]at h2 h4 ⊢;rcases h4 with ⟨_,h0⟩|⟨g,o,cur,rfl,hg,h5,h6⟩
 ·omega
 ·refine⟨g,o,cap,rfl,h2,h3,fun j u hj=>?_,_,_,rfl,by omega,by omega,.inr ⟨g,o+1,cur,rfl,hg,by omega,?_⟩⟩
  ·have hj8:j<8:=azR;rw[cell_of_row w g (o*8+j) cur 125 (0,0) hg];exact azS
  ·exact azT
def hfind(l:List HP)(id:Int):Nat:=l.findIdx fun p=>p.id==id
theorem aDP(x:HP × Value)(hv:∃ og n c,x.2=.slice og n c)(b:Nat)(id:Int)(w:World)(h:w.cell? ⟨b,0,none⟩=some (aU id)) :
  Calls Tryz.prog 55 #[.agg (yu x).toArray,.pointer (some ⟨b,0,none⟩)] w fun e w'=>e=.returned (.bool (decide (x.1.id=id)))∧Below w.heap.size w w':=by
 obtain⟨og,n,c,hv⟩:=hv;obtain⟨xp,xv⟩:=x;simp only at hv;subst hv;unfold yu TF;simp only;have hb:=block_lt_of_cell h;go_enter Tryz.func55,Tryz.ntmps55;exact am0
theorem aL6(l:List (HP × Value))(v:Value)(id:Int)(hl:l.length≤8)(b:Nat)(w:World)(hrow:w.ownsRow 0 106 19 v l.length (kV l))(hcode:∀ x∈l,∃ og n c,x.2=.slice og n c)(hb:w.cell? ⟨b,0,none⟩=some (aU id))(hf:hfind (l.map (·.1)) id<l.length) :
  Calls Tryz.prog 54 #[v,Value.func (.func 55) #[] #[.pointer (some ⟨b,0,none⟩)]] w fun e w'=>e=.returned (aU (hfind (l.map (·.1)) id))∧Below w.heap.size w w':=by
 obtain⟨og,cap,rfl⟩:=pI hrow;generalize hn:l.length=n at hl hrow hf ⊢;have uF:=bW hrow;have HC:=bW hcode;have HB:=bW hb;have hbl:=block_lt_of_cell hb;obtain⟨g,rfl⟩:∃ g,og=some ⟨g,0,none⟩:=by
  rcases hrow.2 with ⟨h0,h1⟩|⟨g,cap',cur,h0,_⟩
  ·omega
  ·exact aj9
 have hgl:g<w.heap.size:=(hrow.lt g rfl).2;have HF:=bW hf;clear hrow hcode hb hf;go_enter Tryz.func54,Tryz.ntmps54;go_wp2_with fail;go_loopw [8] (fun x wr=>∃ a:Nat,x=aU a∧a<n∧a≤hfind (l.map (·.1)) id∧Below w.heap.size w wr) (fun x _=>n-(intOf x).toNat)
 case atStart=>exact⟨0,rfl,by have:=HF.out;omega,Nat.zero_le _,Below.refl _ _⟩
 case round =>
  obtain⟨a,rfl,han,hah,hB⟩:=hrel;have BI:=bW hB;have h1:(a:Int)<n:=bQ;obtain⟨x,hx⟩:∃ x,l[a]?=some x:=⟨_,List.getElem?_eq_getElem bQ⟩;have hx1:(l.map (·.1))[a]?=some x.1:=af5;refine aA1 ?_;intro hr HR HB1;clear hr hB;go_wp2_with (first|(with_reducible refine wpList_load_row iV 106 (.tmp 14) rfl g (a*19) iV (yu x) _ HR.out Tryz.underlying106 rfl (sizeCells x) ?_));refine(aDP x (HC.out x (List.mem_of_getElem? hx)) b id _ HB1.out).mono ?_;rintro e w1 ⟨rfl,hb1⟩;have HB2:=bW (BI.out.trans (hb1.mono BI.out.size));clear hb1;by_cases hk:x.1.id=id
  ·rw[decide_eq_true hk];have he:hfind (l.map (·.1)) id=a:=by
    have hle:a<(l.map (·.1)).length:=eU;refine Nat.le_antisymm (Nat.le_of_not_lt fun hlt=>?_) hah;have:=List.not_of_lt_findIdx hlt;rw[List.getElem?_eq_getElem hle]at hx1;injection hx1 with hx1
    rw[hx1]at this;simp[hk]at this
   go_wp2_with fail;refine bodyPost_ret (v:=aU a) (by simp[results,Tryz.results54,go_sem]) rfl ⟨by rw[he],HB2.out⟩
  ·rw[decide_eq_false hk];have he:hfind (l.map (·.1)) id≠a:=fun e=>by
    have hlt:(l.map (·.1)).findIdx (fun p=>p.id==id)<(l.map (·.1)).length:=by have h1:=HF.out;unfold hfind at h1;rw[List.length_map];omega
    have:=List.findIdx_getElem (w:=hlt);have e2:(l.map (·.1)).findIdx (fun p=>p.id==id)=a:=e;rw[List.getElem?_eq_getElem (by rw[←e2];exact hlt)]at hx1;injection hx1 with hx1
    simp only[e2,hx1]at this;exact hk (by simpa using this)
   go_wp2_with fail;go_roundw
   case rel=>exact⟨a+1,by simp,by have:=HF.out;omega,by omega,HB2.out⟩
   case measure=>simp[intOf];omega
theorem aqK{w:World}{c:HC}{v:Value}{pl:List (HP × Value)}(hc:uP w c v pl)(D o:Nat)(c0:w.cell? ⟨D,o,none⟩=some v)(id:Int)(hf:hfind c.l id<pl.length) :
  Calls Tryz.prog 32 #[.pointer (some ⟨D,o,none⟩),aU id] w fun e w'=>e=.returned (aU (hfind c.l id))∧Below w.heap.size w w':=by
 obtain⟨og,cap,hv⟩:=pI hc.row;have hDl:D<w.heap.size:=block_lt_of_cell c0;subst hv;rw[←hc.l]at hf ⊢;have HC:=bW hc;have HF:=bW hf;clear hc hf;go_enter Tryz.func32,Tryz.ntmps32;go_wp2_with fail;refine(aL6 pl _ id HC.out.short w.heap.size _ (ED HC.out.row ((Below.refl _ _).alloc (Nat.le_refl _) _)) (fun x hx=>by obtain⟨a,b,h⟩:=pI (HC.out.code x hx);exact⟨a,_,b,h⟩) (cell_of_row _ w.heap.size 0 _ _ (0,0) (heap_alloc_new w _)) HF.out).mono ?_;exact aDQ
theorem aLn{w:World}{c:HC}{v:Value}{pl:List (HP × Value)}(hc:uP w c v pl)(D o:Nat)(c0:w.cell? ⟨D,o,none⟩=some v)(id:Int){p:HP}(hf:c.l[hfind c.l id]?=some p) :
  Calls Tryz.prog 13 #[.pointer (some ⟨D,o,none⟩),aU id] w fun e w'=>e=.returned (.tuple #[.agg (lV p.cells).toArray,.nilIface])∧Below w.heap.size w w':=by
 obtain⟨og,cap,hv⟩:=pI hc.row;have hDl:D<w.heap.size:=block_lt_of_cell c0;subst hv;obtain⟨i,hi⟩:∃ i,hfind c.l id=i:=⟨_,rfl⟩;have hfl:hfind c.l id<pl.length:=by
  have:=(List.getElem?_eq_some_iff.1 hf).1;have e:=congrArg List.length hc.l;simp at e;omega
 have hil:i<pl.length:=by rw[←hi];exact hfl
 obtain⟨x,hx⟩:∃ x,pl[i]?=some x:=⟨_,List.getElem?_eq_getElem hil⟩;have hxp:x.1=p:=by
  rw[hi,←hc.l,List.getElem?_map,hx]at hf;exact Option.some.inj hf
 subst hxp;obtain⟨g,rfl⟩:∃ g,og=some ⟨g,0,none⟩:=by
  rcases hc.row.2 with ⟨h0,h1⟩|⟨g,cap',cur,h0,_⟩
  ·omega
  ·exact aj9
 have hgl:g<w.heap.size:=(hc.row.lt g rfl).2;have hr:=adh hc.row hx;have hrt:w.rangeAt g (i*19+3) (lV x.1.cells):=fun j u hj=>by
  have:=hr (3+j) u (by rw[aDa,List.getElem?_append_right dY];simpa using hj);rwa [←Nat.add_assoc]at this
 have ilt:(i:Int)<pl.length:=bQ;have i0:¬(i:Int)<0:=bQ;have hl8:=hc.short;generalize hn:pl.length=n at *;have HC:=bW hc;have HF:=bW hfl;have HRT:=bW hrt;have HI:=bW hi;have HN:=bW hn;clear hc hfl hf hr hrt hi hn;go_enter Tryz.func13,Tryz.ntmps13;go_wp2_with fail;refine apJ ?_;intro w1 hW hb1;have c01:=(hb1.cell (p:=⟨D,o,none⟩) hDl).trans c0;refine(aqK (HC.out.fG (dQ.of hb1 (M:=fun _=>False)) (fun _ _ h=>h) (fun _ _ h=>h)) D o c01 id (by rw[HN.out];exact HF.out)).mono ?_;rintro e w2 ⟨rfl,hb⟩;rw[HI.out];have hb2:=hb1.trans (hb.mono hb1.size);have c02:=(hb2.cell (p:=⟨D,o,none⟩) hDl).trans c0;have hth:w1.there w.heap.size 0 16:=hW▸afY rfl;have avH:=ars hth hb OC;have hst:=WJ (P:=Tryz.prog) (w:=w2) (b:=w.heap.size) (arr:=(lV x.1.cells).toArray) (show w2.there w.heap.size 0 16 from avH) (aqz _);have HR2:=bW (an7 HRT.out hb2 hgl);have HT2:=bW avH;have HB2:=bW hb2;clear hb hb1 hb2 hth avH hW c01;go_wp2_with (first|(with_reducible refine wpList_load_row iV 55 (.tmp 20) rfl g (i*19+3) iV (lV x.1.cells) _ HR2.out Tryz.underlying55 rfl (anG _) ?_));refine bodyPost_ret (results_cell_tmp Tryz.results13 (p:=⟨w.heap.size,0,none⟩) (v:=.agg (lV x.1.cells).toArray) (u:=.nilIface) oZ oZ ?_) rfl ⟨rfl,?_⟩
 ·exact run_loadVar_mid _ w.heap.size 0 _ (lV x.1.cells) _ (World.rangeAt_setCells_same w2 w.heap.size 0 (lV x.1.cells) (show w2.there w.heap.size 0 16 from HT2.out)) Tryz.underlying55 rfl (anG _)
 ·exact aBt
end Go.Proofs.YtglilddlhibogaaGreatDoor.W
