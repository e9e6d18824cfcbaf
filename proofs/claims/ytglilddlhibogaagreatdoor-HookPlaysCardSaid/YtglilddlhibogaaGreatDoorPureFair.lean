/- A part of the proof; each theorem states its conditions. -/
import Derived.Test.YtglilddlhibogaaGreatDoorOneVer
import Derived.Test.YtglilddlhibogaaGreatDoorWalkRefB3
import Derived.Lib.SliceRun
set_option linter.unusedSimpArgs false
set_option linter.unusedVariables false
set_option maxRecDepth 100000
set_option maxHeartbeats 100000000
namespace Go.Proofs.YtglilddlhibogaaGreatDoor.P
open Go.RowKit (wrap64)
def Qq(S:Nat→Step)(n:Nat)(told cells:Nat→Int)(time:Int):(Int × Int) ⊕ (dM × Int × Int) :=
  if n<1∨200<n then .inl (4,-1)else if(from_ S n 0 n).1≠0 then .inl ((from_ S n 0 n).1,(from_ S n 0 n).2)else dM.run S told time n (dM.init cells) 0 1
structure HP where
  id:Int
  rank:Int
  code:List Step
  cells:Nat→Int
structure HC where
  l:List HP
  next:Int
structure Sd where
  oW:Int
  num:Int
  steps:Int
  out:List Int
def Sd.zero:Sd:=⟨0,0,0,[]⟩
def hpos(l:List HP)(rank:Int):Nat:=l.findIdx fun p=>decide (rank<p.rank)
def HC.put(c:HC)(L:List Step)(rank:Int):HC:=⟨c.l.take (hpos c.l rank)++⟨c.next+1,rank,L,fun _=>0⟩::c.l.drop (hpos c.l rank),c.next+1⟩
def HC.attach(c:HC)(L:List Step)(rank:Int):HC × Int × (Int × Int) :=
  if(verify (nth L) L.length).1.1≠0 then(c,0,(verify (nth L) L.length).1)else if 8≤c.l.length then(c,0,(12,-1))else(c.put L rank,c.next+1,(0,-1))
def hrun(told:Nat→Int)(time:Int):List HP→Sd→List HP × Sd
  |[],s=>([],s)
  |p::t,s=>match Qq (nth p.code) p.code.length told p.cells time with
    |.inl _=>(p::(hrun told time t s).1,(hrun told time t s).2)
    |.inr (M,num,st) =>
      if num≠0 then({ p with cells:=M.cells}::t,⟨p.id,num,s.steps+st,s.out++M.out⟩)
      else({ p with cells:=M.cells}::(hrun told time t ⟨s.oW,s.num,s.steps+st,s.out++M.out⟩).1,(hrun told time t ⟨s.oW,s.num,s.steps+st,s.out++M.out⟩).2)
structure HD where
  c:Nat→HC
  q:Nat→List (Nat→Int)
  may:Nat→Int
  left:Nat→Int
  time:Int
def HD.zero(may:Nat→Int):HD:=⟨fun _=>⟨[],0⟩,fun _=>[],may,fun _=>0,0⟩
structure HS where
  c:HC
  q:List (Nat→Int)
  left:Int
  time:Int
  done:List Sd
def HS.one(s:HS)(e:Nat→Int)(r:List (Nat→Int)):HS :=
  ⟨{ s.c with l:=(hrun e s.time s.c.l .zero).1},r,s.left-((hrun e s.time s.c.l .zero).2.steps+1),s.time+1,s.done++[(hrun e s.time s.c.l .zero).2]⟩
def drain:Nat→HS→HS
  |0,s=>s
  |k+1,s=>match s.q with
    |[]=>s
    |e::r=>if 0<s.left then drain k (s.one e r)else s
def HD.turn(d:HD)(k:Nat):HS:=drain (d.q k).length ⟨d.c k,d.q k,d.left k+d.may k,d.time,[]⟩
def HS.rest(s:HS):Int:=if s.q=[]then min s.left 0 else s.left
def HD.after(d:HD)(k:Nat):HD:=⟨upd d.c k (d.turn k).c,upd d.q k (d.turn k).q,d.may,upd d.left k (d.turn k).rest,(d.turn k).time⟩
def HD.aa5(d:HD)(k:Nat):List (Int × Sd):=(d.turn k).done.map fun s=>((k:Int),s)
def HD.round(d:HD):HD:=((d.after 0).after 1).after 2
def HD.done(d:HD):List (Int × Sd):=d.aa5 0++(d.after 0).aa5 1++((d.after 0).after 1).aa5 2
def HD.event(d:HD)(k:Nat)(told:Nat→Int):HD:=if 20≤(d.q k).length then d else { d with q:=upd d.q k (d.q k++[told])}
def HD.attach(d:HD)(k:Nat)(L:List Step)(rank:Int):HD:={ d with c:=upd d.c k ((d.c k).attach L rank).1}
theorem aDi(S:Nat→Step)(told:Nat→Int)(time:Int):∀ (k:Nat) (M:dM) (pc st:Int) {M':dM} {n st':Int},dM.run S told time k M pc st=.inr (M',n,st')→st≤st'∧st'<st+k
  |0,_,_,_,_,_,_,h=>by simp[dM.run]at h
  |k+1,M,pc,st,M',n,st',h=>by
    rw[dM.run]at h;generalize M.step told time (S pc.toNat) pc=R at h;cases R with
    |done M2 n2=>simp only at h;injection h with h;injection h with _ h;injection h with _ h;subst h;omega
    |err e=>simp only at h;cases h
    |go M2 nx=>have:=aDi S told time k M2 nx (st+1) h;omega
theorem au7{S:Nat→Step}{n:Nat}{told cells:Nat→Int}{time:Int}{M:dM}{num st:Int}(h:Qq S n told cells time=.inr (M,num,st)):1≤st∧st≤200:=by
  unfold Qq at h;split at h
  · cases h
  split at h
  · cases h
  · have:=aDi S told time n _ 0 1 h;omega
theorem ahi(told:Nat→Int)(time:Int):∀ (l:List HP) (s:Sd),s.steps≤(hrun told time l s).2.steps∧(hrun told time l s).2.steps≤s.steps+200*l.length
  |[],s=>⟨Int.le_refl _,by simp[hrun]⟩
  |p::t,s=>by
    rw[hrun];cases ho:Qq (nth p.code) p.code.length told p.cells time with
    |inl e=>have:=ahi told time t s;simp only[List.length_cons];omega
    |inr r =>
      obtain⟨M,num,st⟩:=r;have h1:=au7 ho;simp only;split
      · simp only[List.length_cons];omega
      · have:=ahi told time t ⟨s.oW,s.num,s.steps+st,s.out++M.out⟩;simp only[List.length_cons]at this ⊢;omega
theorem as7(told:Nat→Int)(time:Int):∀ (l:List HP) (s:Sd),(hrun told time l s).1.length=l.length
  |[],s=>rfl
  |p::t,s=>by
    rw[hrun];cases Qq (nth p.code) p.code.length told p.cells time with
    |inl e=>simp[as7 told time t s]
    |inr r =>
      obtain⟨M,num,st⟩:=r;simp only;split
      · rfl
      · simp[as7 told time t]
end Go.Proofs.YtglilddlhibogaaGreatDoor.P
namespace Go.Proofs.YtglilddlhibogaaGreatDoor.W
open Go.RowKit Go.Proofs.YtglilddlhibogaaGreatDoor.P
theorem atl:((Tryz.prog).info? 110).map (fun i=>(i.zero,i.size,i.bytes))=some (some (.agg #[aU 0,aU 0,aU 0,.bool false,aU 0,aU 0]),6,48):=dF
theorem an8(a:Addr)(i r:Nat)(hr:0<r):(⟨(a.add (i*6)).block,(a.add (i*6)).off+r,none⟩:Addr)=a.add (i*6+r):=by
 unfold Addr.add;by_cases h:i*6=0
 ·rw[dB h,dw bQ,h,Nat.zero_add]
 ·rw[dw h,dw bQ];simp[Nat.add_assoc]
theorem Cells.row{w:World}{a:Addr}{S:Nat→Step}{n:Nat}(h:Cells w a S n):∀ j u,(rowOf (first S n))[j]?=some u→w.cell? (a.add j)=some u:=by
 intro j u hj;have hjl:j<n*6:=by have:=(List.getElem?_eq_some_iff.1 hj).1;rwa [amG,amH]at this
 have hi:j/6<n:=bQ;have e:j=j/6*6+j%6:=bQ;rw[e,asX (first S n) (j/6) (j%6) (by rw[amH];exact hi) bQ,ayE S n _ hi]at hj;obtain⟨c0,c1,c2,c3,c4,c5⟩:=h (j/6) hi;rw[e];have hr:j%6=0∨j%6=1∨j%6=2∨j%6=3∨j%6=4∨j%6=5:=bQ;rcases hr with r|r|r|r|r|r<;>rw[r]at hj ⊢<;>simp only[c6,List.getElem?_cons_zero,List.getElem?_cons_succ,Option.some.injEq]at hj<;>subst hj
 ·exact c0
 ·rw[←an8 a _ 1 bQ];exact c1
 ·rw[←an8 a _ 2 bQ];exact c2
 ·rw[←an8 a _ 3 bQ];exact c3
 ·rw[←an8 a _ 4 bQ];exact c4
 ·rw[←an8 a _ 5 bQ];exact c5
theorem atm(L:List Step):∀ u∈rowOf L,u.oneCell'=true:=by
 intro u hu;obtain⟨t,_,ht⟩:=List.mem_flatMap.1 hu;simp only[c6,List.mem_cons,List.not_mem_nil,or_false]at ht;rcases ht with rfl|rfl|rfl|rfl|rfl|rfl<;>rfl
theorem aCC(a:Addr)(n cap:Nat)(S:Nat→Step)(hn2:n≤200)(w:World)(hs:Cells w a S n) :
  Calls Tryz.prog 47 #[.slice (some a) n cap] w fun e w'=>∃ v',e=.returned v'∧w'.ownsRow w.heap.size 110 6 v' n (rowOf (first S n))∧Below w.heap.size w w':=by
 obtain⟨i0,hi,hq⟩:=Option.map_eq_some_iff.1 atl;have hz0:i0.zero=some _:=congrArg (·.1) hq;have hz1:i0.size=6:=congrArg (·.2.1) hq;have hz2:i0.bytes=48:=congrArg (·.2.2) hq;have HR:=hs.row;have hlen:(rowOf (first S n)).length=n*6:=by rw[amG,amH]
 have hown:=World.ownsRow_made (size:=6) (e:=110) w #[] 0 (Nat.le_refl _) JF rfl;have hal:∀ j u,(rowOf (first S n))[j]?=some u→(w.alloc (.cells #[] 110)).cell? (a.add j)=some u:=fun j u hj=>by
  have h:=HR j u hj;rw[World.cell?_of_block (w:=w) (a:=a.add j) (Below.heap_alloc w _ _ (block_lt_of_cell h))];exact h
 have heq:∀ W,(binOp .eql 33 (.slice (some a) n cap) (.slice none 0 0)).run Tryz.prog W=.ok (.bool false) W:=fun W=>by
  have:=Lib.run_eql_slice_nil (P:=Tryz.prog) W 33 110 (some a) n cap 0 0 Tryz.underlying33;simpa using this
 clear HR hs;go_enter Tryz.func47,Tryz.ntmps47;go_wp2_with (first|(simp only[heq])|(at_builtin;refine wpList_append_own _ rfl _ _ 33 rfl w.heap.size 110 i0 _ 6 48 Tryz.underlying33 hi hz0 hz1 hz2 rfl dS _ _ _ rfl hown a n cap (rowOf (first S n)) rfl hlen hal (atm _) JF bQ dY ?_;intro v' w' hown' hgrow _));go_ret
 refine⟨v',rfl,by simpa using hown',?_⟩;exact Below.grown ((Below.refl w.heap.size w).alloc (Nat.le_refl _) _) hgrow dY (fun k e=>by cases e;exact Nat.le_refl _)
def TF(id rank:Int)(code:Value)(f:Nat→Int):List Value:=[aU id,aU rank,code,aU (f 0),aU (f 1),aU (f 2),aU (f 3),aU (f 4),aU (f 5),aU (f 6),aU (f 7),aU (f 8),aU (f 9),aU (f 10),aU (f 11),aU (f 12),aU (f 13),aU (f 14),aU (f 15)]
theorem aLx(id rk:Int)(code:Value)(f:Nat→Int)(rank:Int)(w:World) :
  Calls Tryz.prog 45 #[.agg (TF id rk code f).toArray,aU rank] w fun e w'=>e=.returned (aU (if rk≤rank then -1 else 1))∧Below w.heap.size w w':=by
 unfold TF;by_cases h:rk≤rank
 ·rw[dB h];go_enter Tryz.func45,Tryz.ntmps45;exact am0
 ·rw[dw h];go_enter Tryz.func45,Tryz.ntmps45;exact am0
section
variable{α:Type}{f:α→List Value}{k:Nat}
theorem aaG(hf:∀ x,(f x).length=k):∀ l:List α,(l.flatMap f).length=l.length*k
 |[]=>by simp
 |x::l=>by rw[List.flatMap_cons,List.length_append,aaG hf l,hf,List.length_cons,Nat.succ_mul];omega
theorem arp(hf:∀ x,(f x).length=k):∀ (l:List α) (i:Nat),(l.flatMap f).take (i*k)=(l.take i).flatMap f
 |[],i=>by simp
 |x::l,0=>by simp
 |x::l,i+1=>by
  rw[List.flatMap_cons,List.take_succ_cons,List.flatMap_cons,List.take_append,List.take_of_length_le auV,hf,show(i+1)*k-k=i*k by rw[Nat.succ_mul];omega,arp hf l i]
theorem arq(hf:∀ x,(f x).length=k):∀ (l:List α) (i:Nat),(l.flatMap f).drop (i*k)=(l.drop i).flatMap f
 |[],i=>by simp
 |x::l,0=>by simp
 |x::l,i+1=>by
  rw[List.flatMap_cons,List.drop_succ_cons,List.drop_append,List.drop_eq_nil_of_le auV,hf,show(i+1)*k-k=i*k by rw[Nat.succ_mul];omega,arq hf l i,List.nil_append]
theorem avy(hf:∀ x,(f x).length=k):∀ (l:List α) (i j:Nat) (x:α),l[i]?=some x→j<k→(l.flatMap f)[i*k+j]?=(f x)[j]?
 |[],i,j,x,h,_=>by simp at h
 |y::l,0,j,x,h,hj=>by
  simp at h;subst h;rw[List.flatMap_cons,Nat.zero_mul,Nat.zero_add,List.getElem?_append_left (by rw[hf];exact hj)]
 |y::l,i+1,j,x,h,hj=>by
  rw[List.getElem?_cons_succ]at h;rw[List.flatMap_cons,List.getElem?_append_right auV,hf,show(i+1)*k+j-k=i*k+j by rw[Nat.succ_mul];omega];exact avy hf l i j x h hj
end
def yu(x:HP × Value):List Value:=TF x.1.id x.1.rank x.2 x.1.cells
theorem aa6(x:HP × Value):(yu x).length=19:=rfl
def kV(l:List (HP × Value)):List Value:=l.flatMap yu
theorem adl(l:List (HP × Value)):(kV l).length=l.length*19:=aaG aa6 l
theorem aLy{l:List (HP × Value)}{i j:Nat}{x:HP × Value}(h:l[i]?=some x)(hj:j<19):(kV l)[i*19+j]?=(yu x)[j]?:=avy aa6 l i j x h hj
theorem aKP(l:List (HP × Value))(i:Nat)(x:HP × Value):(kV l).take (i*19)++yu x++(kV l).drop (i*19)=kV (l.take i++x::l.drop i):=by
 unfold kV;rw[arp aa6,arq aa6,List.flatMap_append,List.flatMap_cons,List.append_assoc]
theorem adh{w:World}{B g n cap:Nat}{l:List (HP × Value)}(h:w.ownsRow B 106 19 (.slice (some ⟨g,0,none⟩) n cap) n (kV l)){i:Nat}{x:HP × Value}(hi:l[i]?=some x):w.rangeAt g (i*19) (yu x):=by
 intro j u hu;have hj:j<19:=by have:=(List.getElem?_eq_some_iff.1 hu).1;rwa [aa6]at this
 have:=h.cells (g:=g) rfl (i*19+j) u (by rw[aLy hi hj];exact hu);exact ayw
def Sorted(l:List HP):Prop:=∀ (i j:Nat) (p q:HP),i≤j→l[i]?=some p→l[j]?=some q→p.rank≤q.rank
theorem aLz{l:List HP}{rank:Int}{i:Nat}(hi:i≤l.length)(h1:∀ (j:Nat) (p:HP),j<i→l[j]?=some p→p.rank≤rank)(h2:∀ p:HP,l[i]?=some p→rank<p.rank):hpos l rank=i:=by
 unfold hpos;by_cases he:i=l.length
 ·subst he;rw[List.findIdx_eq_length];intro p hp;obtain⟨j,hj,rfl⟩:=List.getElem_of_mem hp;have:=h1 j _ hj (List.getElem?_eq_getElem hj);simpa using this
 ·have hl:i<l.length:=bQ;rw[List.findIdx_eq hl];refine⟨by simpa using h2 _ (List.getElem?_eq_getElem hl),fun j hj=>?_⟩;have:=h1 j _ hj (List.getElem?_eq_getElem bQ);simpa using this
theorem aDe(x:HP × Value)(rank:Int)(w:World) :
  Calls Tryz.prog 45 #[.agg (yu x).toArray,aU rank] w fun e w'=>e=.returned (aU (if x.1.rank≤rank then -1 else 1))∧Below w.heap.size w w':=aLx _ _ _ _ _ _
theorem sizeCells(x:HP × Value):((Tryz.prog).info? 106).map (·.size)=some (yu x).length:=an9
theorem wpList_load_row{P:Program}{ops:Array Oper}{rest:List Oper}{op:Oper}{a:Act}{w:World}{Q:Exit→Act→World→Prop}(hw:Region.wanted op (yielded ops a.tmps)=true)(ty:TypeId)(x:Operand)(ho:op.op=.load ty x)
  (b o:Nat) (hx:a.eval x=.pointer (some ⟨b,o,none⟩)) (cs:List Value) (d:TypeDesc) (hc:w.rangeAt b o cs) (hu:P.underlying ty=some d) (hd:d.isRow=true) (hi:(P.info? ty).map (·.size)=some cs.length)
  (h:wpList P ops Q rest (a.put op.dst (.agg cs.toArray)) w):wpList P ops Q (op::rest) a w :=
 wpList_step fun _ hK=>by
  rw[dB hw];exact wp_load_mid ty x ho b o hx cs d hc hu hd hi (hK _ _ h)
theorem aKS(l:List (HP × Value))(v:Value)(rank:Int)(hl:l.length≤8)(B:Nat)(w:World)(hrow:w.ownsRow B 106 19 v l.length (kV l))(hsort:Sorted (l.map (·.1))) :
  Calls Tryz.prog 44 #[v,aU rank,Value.func (.func 45) #[] #[]] w fun e w'=>e=.returned (.tuple #[aU (hpos (l.map (·.1)) rank),.bool false])∧Below w.heap.size w w':=by
 have key:∃ og cap,v=.slice og l.length cap:=by
  rcases hrow.2 with ⟨rfl,h0⟩|⟨g,cap,cur,rfl,_⟩
  ·exact⟨_,_,by rw[h0]⟩
  ·exact⟨_,_,rfl⟩
 obtain⟨og,cap,rfl⟩:=key;generalize hn:l.length=n at hl hrow ⊢;have uF:=bW hrow;have aDf:=bW hsort;clear hrow hsort;go_enter Tryz.func44,Tryz.ntmps44;go_wp2_with fail;go_loopw [9,10] (fun x y wr=>∃ a b:Nat,a≤b∧b≤n∧x=aU a∧y=aU b∧(∀ (j:Nat) (p:HP),j<a→(l.map (·.1))[j]?=some p→p.rank≤rank)∧(∀ (j:Nat) (p:HP),b≤j→(l.map (·.1))[j]?=some p→rank<p.rank)∧Below w.heap.size w wr) (fun x y _=>(intOf y).toNat-(intOf x).toNat)
 case atStart=>exact⟨0,n,by omega,by omega,rfl,rfl,fun j p h=>by omega,fun j p h hj=>by have:=(List.getElem?_eq_some_iff.1 hj).1;simp at this;omega,Below.refl _ _⟩
 case round =>
  obtain⟨a,b,hab,hbn,rfl,rfl,ha,hb,HB⟩:=hrel;have HA:=bW ha;have qx:=bW hb;have BI:=bW HB;clear ha hb HB;by_cases h:a<b
  ·have hk1:(a:Int)<b:=bQ;obtain⟨m,hm⟩:∃ m:Nat,((a:Int)+(b:Int))/2=m:=⟨(a+b)/2,by omega⟩;have hm1:a≤m:=bQ;have hm2:m<b:=bQ;have hm3:(m:Int)<n:=bQ;obtain⟨x,hx⟩:∃ x,l[m]?=some x:=⟨_,List.getElem?_eq_getElem bQ⟩;have hx1:(l.map (·.1))[m]?=some x.1:=af5;obtain⟨g,rfl⟩:∃ g,og=some ⟨g,0,none⟩:=by
    exact auu
   have hr:=adh (uF.out) hx;have hgl:g<w.heap.size:=(uF.out.lt g rfl).2;have hrr:wr.rangeAt g (m*19) (yu x):=fun j u hj=>(BI.out.cell (p:=⟨g,m*19+j,none⟩) hgl).trans (hr j u hj);have HR:=bW hrr;clear hr hrr;go_wp2_with (first|(with_reducible refine wpList_load_row iV 106 (.tmp 27) rfl g (m*19) iV (yu x) _ HR.out Tryz.underlying106 rfl (sizeCells x) ?_));refine(aDe x rank _).mono ?_;rintro e w1 ⟨rfl,hb⟩;have HB1:=bW (BI.out.trans (hb.mono BI.out.size));clear hb;by_cases hk:x.1.rank≤rank
   ·rw[dB hk];go_wp2_with fail;go_roundw
    case rel =>
     refine⟨m+1,b,by omega,hbn,by go_num,rfl,fun j p hj hp=>?_,qx.out,HB1.out⟩;exact Int.le_trans (aDf.out j m p x.1 bQ hp hx1) hk
    case measure=>simp[intOf];omega
   ·rw[dw hk];go_wp2_with fail;go_roundw
    case rel =>
     refine⟨a,m,by omega,by omega,rfl,rfl,HA.out,fun j p hj hp=>?_,HB1.out⟩;have:=aDf.out m j x.1 p bQ hx1 hp;omega
    case measure=>simp[intOf];omega
  ·obtain rfl:a=b:=bQ;have hpos:=aLz (l:=l.map (·.1)) (rank:=rank) (i:=a) eU HA.out (fun p hp=>qx.out a p (Nat.le_refl _) hp);have aDg:=bW hpos;clear hpos;by_cases he:a<n
   ·have he1:(a:Int)<n:=bQ;obtain⟨x,hx⟩:∃ x,l[a]?=some x:=⟨_,List.getElem?_eq_getElem bQ⟩;obtain⟨g,rfl⟩:∃ g,og=some ⟨g,0,none⟩:=by
     exact auu
    have hr:=adh (uF.out) hx;have hgl:g<w.heap.size:=(uF.out.lt g rfl).2;have hrr:wr.rangeAt g (a*19) (yu x):=fun j u hj=>(BI.out.cell (p:=⟨g,a*19+j,none⟩) hgl).trans (hr j u hj);have HR:=bW hrr;clear hr hrr;go_wp2_with (first|(with_reducible refine wpList_load_row iV 106 (.tmp 43) rfl g (a*19) iV (yu x) _ HR.out Tryz.underlying106 rfl (sizeCells x) ?_));refine(aDe x rank _).mono ?_;rintro e w1 ⟨rfl,hb⟩;have HB1:=bW (BI.out.trans (hb.mono BI.out.size));clear hb;by_cases hk:x.1.rank≤rank
    ·rw[dB hk];exact aDh
    ·rw[dw hk];exact aDh
   ·have he1:¬(a:Int)<n:=bQ;go_wp2_with fail;refine bodyPost_ret (v:=.tuple #[aU a,.bool false]) (by simp[results,Tryz.results44,go_sem]) rfl ⟨by rw[aDg.out],BI.out⟩
end Go.Proofs.YtglilddlhibogaaGreatDoor.W
namespace Go.Proofs.YtglilddlhibogaaGreatDoor.W
open Go.RowKit Go.Proofs.YtglilddlhibogaaGreatDoor.P
structure dQ(M:Nat→Prop)(w w':World):Prop where
 os:w'.os=w.os
 tape:w'.tape=w.tape
 output:w'.output=w.output
 size:w.heap.size≤w'.heap.size
 block:∀ k,k<w.heap.size→¬M k→w'.heap[k]?=w.heap[k]?
section
variable{M M':Nat→Prop}{w w' w'':World}
theorem dQ.refl(M:Nat→Prop)(w:World):dQ M w w:=⟨rfl,rfl,rfl,Nat.le_refl _,fun _ _ _=>rfl⟩
theorem dQ.trans(h:dQ M w w')(k:dQ M w' w''):dQ M w w'' :=
 ⟨k.os.trans h.os,k.tape.trans h.tape,k.output.trans h.output,Nat.le_trans h.size k.size,fun i hi ne=>(k.block i (Nat.lt_of_lt_of_le hi h.size) ne).trans (h.block i hi ne)⟩
theorem dQ.mono(h:dQ M w w')(hM:∀ k,k<w.heap.size→M k→M' k):dQ M' w w':=⟨h.os,h.tape,h.output,h.size,fun k hk ne=>h.block k hk fun m=>ne (hM k hk m)⟩
theorem dQ.of(h:Below w.heap.size w w'):dQ M w w':=⟨h.os,h.tape,h.output,h.size,fun k hk _=>h.block k hk⟩
theorem dQ.below(h:dQ M w w'){B:Nat}(hB:B≤w.heap.size)(hM:∀ k,M k→B≤k):Below B w w':=⟨h.os,h.tape,h.output,h.size,fun k hk=>h.block k bQ fun m=>by have:=hM k m;omega⟩
theorem dQ.grown{v:Option Nat}(h:w.grownBy w' v)(hM:∀ k,v=some k→M k):dQ M w w':=⟨h.os,h.tape,h.output,h.size,fun k hk ne=>h.block k hk fun e=>ne (hM k e.symm)⟩
theorem dQ.img{b n:Nat}{I:Nat→Value}(h:dQ M w w')(hI:P.Img w b n I)(hn:0<n)(hb:¬M b):P.Img w' b n I:=hI.of_block (h.block b (hI.lt hn) hb)
theorem dQ.row{B:Nat}{e:TypeId}{size:Nat}{v:Value}{n:Nat}{xs:List Value}(h:dQ M w w')(hr:w.ownsRow B e size v n xs)(hM:∀ k,v.ownBlock=some k→¬M k):w'.ownsRow B e size v n xs:=by
 refine⟨hr.1,?_⟩;rcases hr.2 with hn|⟨g,cap,cur,rfl,hb,hg,rest⟩
 ·exact .inl hn
 ·exact .inr ⟨g,cap,cur,rfl,hb,(h.block g (Array.getElem?_eq_some_iff.1 hg).1 (hM g rfl)).trans hg,rest⟩
theorem dQ.cell{p:Addr}{v:Value}(h:dQ M w w')(e:w.cell? p=some v)(ne:¬M p.block):w'.cell? p=some v :=
 (World.cell?_of_block (w:=w) (h.block p.block (World.block_lt_of_cell? w p e) ne)).trans e
end
def Typed(w:World)(b:Nat)(t:TypeId):Prop:=∃ c,w.heap[b]?=some (.cells c t (0,0))
theorem Typed.ne{w:World}{a b:Nat}{s t:TypeId}(h:Typed w a s)(k:Typed w b t)(ne:s≠t):a≠b:=by
 rintro rfl;obtain⟨c,hc⟩:=h;obtain⟨d,hd⟩:=k;rw[hc]at hd;injection hd with hd;injection hd with _ hd;exact ne hd
theorem kD{w:World}{B:Nat}{e:TypeId}{size:Nat}{v:Value}{n:Nat}{xs:List Value}(h:w.ownsRow B e size v n xs):∀ k,v.ownBlock=some k→Typed w k e:=by
 intro k hk;rcases h.2 with ⟨rfl,_⟩|⟨g,cap,cur,rfl,_,hg,_⟩
 ·cases hk
 ·injection hk with hk;subst hk;exact⟨_,hg⟩
theorem Typed.lt{w:World}{b:Nat}{t:TypeId}(h:Typed w b t):b<w.heap.size:=by obtain⟨c,hc⟩:=h;exact(Array.getElem?_eq_some_iff.1 hc).1
theorem amO{w:World}{B B':Nat}{e:TypeId}{size:Nat}{v:Value}{n:Nat}{xs:List Value}(h:w.ownsRow B e size v n xs)(hB:B'≤B):w.ownsRow B' e size v n xs:=by
 refine⟨h.1,?_⟩;rcases h.2 with hn|⟨g,cap,cur,rfl,hb,rest⟩
 ·exact .inl hn
 ·exact .inr ⟨g,cap,cur,rfl,by omega,rest⟩
def QH(w:World)(x:HP × Value):Prop:=w.ownsRow 0 110 6 x.2 x.1.code.length (rowOf x.1.code)
structure uP(w:World)(c:HC)(v:Value)(pl:List (HP × Value)):Prop where
 l:pl.map (·.1)=c.l
 row:w.ownsRow 0 106 19 v pl.length (kV pl)
 code:∀ x∈pl,QH w x
 sorted:Sorted c.l
 short:pl.length≤8
theorem uP.zero(w:World):uP w ⟨[],0⟩ (.slice none 0 0) []:=⟨rfl,World.ownsRow_nil _ _ _ _,fun x h=>(by cases h),fun i j p q _ h=>by simp at h,by simp⟩
theorem uP.fG{M:Nat→Prop}{w w':World}{c:HC}{v:Value}{pl:List (HP × Value)}(h:uP w c v pl)(hf:dQ M w w')(h1:∀ k,v.ownBlock=some k→¬M k)(h2:∀ k,Typed w k 110→¬M k):uP w' c v pl :=
 ⟨h.l,hf.row h.row h1,fun x hx=>hf.row (h.code x hx) fun k hk=>h2 k (kD (h.code x hx) k hk),h.sorted,h.short⟩
def t8(f:Nat→Int):List Value:=[aU (f 0),aU (f 1),aU (f 2),aU (f 3),aU (f 4),aU (f 5),aU (f 6),aU (f 7)]
theorem Gq(f:Nat→Int):(t8 f).length=8:=rfl
def Et(w:World)(q:List (Nat→Int))(v:Value):Prop:=∃ og cap,v=.slice og q.length cap∧q.length≤cap∧cap≤maxLen∧((og=none∧cap=0) ∨
 ∃ g o cur,og=some ⟨g,o*8,none⟩∧w.heap[g]?=some (.cells cur 125 (0,0))∧(o+cap)*8≤cur.size∧(cur.toList.drop (o*8)).take (q.length*8)=q.flatMap t8)
theorem Et.zero(w:World):Et w [] (.slice none 0 0):=⟨none,0,rfl,Nat.le_refl _,by unfold maxLen;omega,.inl ⟨rfl,rfl⟩⟩
theorem Et.fG{M:Nat→Prop}{w w':World}{q:List (Nat→Int)}{v:Value}(h:Et w q v)(hf:dQ M w w')(h1:∀ k,v.ownBlock=some k→¬M k):Et w' q v:=by
 exact azO
theorem Et.typed{w:World}{q:List (Nat→Int)}{v:Value}(h:Et w q v):∀ k,v.ownBlock=some k→Typed w k 125:=by
 exact azP
def Cm(d:HD)(vs qs:Nat→Value):Nat→Value:=fun j =>
 if j<6 then(if j%2=0 then vs (j/2)else aU (d.c (j/2)).next)else if j<9 then qs (j-6)else if j<12 then aU (d.may (j-9))else if j<15 then aU (d.left (j-12))else aU d.time
def kQ(D:Nat)(vs qs:Nat→Value):Nat→Prop:=fun b=>b=D∨∃ k,k<3∧((vs k).ownBlock=some b∨(qs k).ownBlock=some b)
structure lC(w:World)(D:Nat)(d:HD)(vs qs:Nat→Value)(dO:Nat→List (HP × Value)):Prop where
 img:P.Img w D 16 (Cm d vs qs)
 typed:Typed w D 78
 chain:∀ k,k<3→uP w (d.c k) (vs k) (dO k)
 queue:∀ k,k<3→Et w (d.q k) (qs k)
 Y4:∀ j k b,j<3→k<3→j≠k→(vs j).ownBlock=some b→(vs k).ownBlock≠some b
 Td:∀ j k b,j<3→k<3→j≠k→(qs j).ownBlock=some b→(qs k).ownBlock≠some b
variable{w w':World}{D:Nat}{d:HD}{vs qs:Nat→Value}{dO:Nat→List (HP × Value)}
theorem lC.fG{M:Nat→Prop}(h:lC w D d vs qs dO)(hf:dQ M w w')(hM:∀ b,kQ D vs qs b→¬M b)(h2:∀ k,Typed w k 110→¬M k):lC w' D d vs qs dO:=by
 refine⟨hf.img h.img bQ (hM D (.inl rfl)),?_,fun k hk=>?_,fun k hk=>?_,h.Y4,h.Td⟩
 ·obtain⟨c,hc⟩:=h.typed;exact⟨c,(hf.block D h.typed.lt (hM D (.inl rfl))).trans hc⟩
 ·exact(h.chain k hk).fG hf (fun b hb=>hM b (.inr ⟨k,hk,.inl hb⟩)) h2
 ·exact aBS
theorem kQ.aNp(h:lC w D d vs qs dO){b:Nat}(hb:kQ D vs qs b):¬Typed w b 110:=by
 intro ht;rcases hb with rfl|⟨k,hk,hb|hb⟩
 ·exact h.typed.ne ht dS rfl
 ·exact(kD (h.chain k hk).row b hb).ne ht dS rfl
 ·exact((h.queue k hk).typed b hb).ne ht dS rfl
theorem lC.later(h:lC w D d vs qs dO)(hb:Below w.heap.size w w'):lC w' D d vs qs dO:=h.fG (M:=fun _=>False) (dQ.of hb) (fun _ _=>id) (fun _ _=>id)
end Go.Proofs.YtglilddlhibogaaGreatDoor.W
namespace Go.Proofs.YtglilddlhibogaaGreatDoor.W
open Go.RowKit Go.Proofs.YtglilddlhibogaaGreatDoor.P
theorem Yq{d:HD}{vs qs:Nat→Value}{k:Nat}(hk:k<3):Cm d vs qs (k*2)=vs k∧Cm d vs qs (k*2+1)=aU (d.c k).next:=by
 unfold Cm;refine⟨?_,?_⟩
 ·rw[dB bQ,dB bQ,show k*2/2=k by omega]
 ·rw[dB bQ,dw bQ,show(k*2+1)/2=k by omega]
theorem ame{d:HD}{vs qs:Nat→Value}{k:Nat}(hk:k<3):Cm d vs qs (6+k)=qs k:=by
 unfold Cm;rw[dw bQ,dB bQ,show 6+k-6=k by omega]
theorem aGF{d:HD}{vs qs:Nat→Value}{k:Nat}(hk:k<3):Cm d vs qs (9+k)=aU (d.may k):=by
 unfold Cm;rw[dw bQ,dw bQ,dB bQ,show 9+k-9=k by omega]
theorem apd{d:HD}{vs qs:Nat→Value}{k:Nat}(hk:k<3):Cm d vs qs (12+k)=aU (d.left k):=by
 unfold Cm;rw[dw bQ,dw bQ,dw bQ,dB bQ,show 12+k-12=k by omega]
variable{w:World}{D:Nat}{d:HD}{vs qs:Nat→Value}{dO:Nat→List (HP × Value)}
theorem Et.form{w:World}{q:List (Nat→Int)}{v:Value}(h:Et w q v):∃ og cap,v=.slice og q.length cap:=ax7
theorem aGG(h:lC w D d vs qs dO)(k:Nat)(hk:k<3) :
  Calls Tryz.prog 9 #[.pointer (some ⟨D,0,none⟩),aU k] w fun e w'=>e=.returned (.tuple #[.pointer (some ⟨D,k*2,none⟩),.nilIface])∧w'=w:=by
 refine amf ?_;intro k0 k3 k4;go_enter Tryz.func9,Tryz.ntmps9;go_wp2_with fail;exact bodyPost_ret (v:=.tuple #[.pointer (some ⟨D,k*2,none⟩),.nilIface]) (by simp[results,Tryz.results9,go_sem]) rfl ⟨rfl,rfl⟩
theorem ax8(k:Int)(hk:k<0∨3≤k)(p:Value)(w:World) :
  Calls Tryz.prog 9 #[p,aU k] w fun e w'=>e=.returned (.tuple #[.pointer none,.iface 30 (aU 2)])∧w'=w:=by
 by_cases h:k<0
 ·exact ax9
 ·have h3:3≤k:=bQ;exact ax9
theorem aGH(h:lC w D d vs qs dO)(k:Nat)(hk:k<3) :
  Calls Tryz.prog 10 #[.pointer (some ⟨D,0,none⟩),aU k] w fun e w'=>e=.returned (aU (d.q k).length)∧w'=w:=by
 refine amf ?_;intro k0 k3 k4;obtain⟨og,cap,hq⟩:=(h.queue k hk).form;have c0:=(h.img.cell (6+k) bQ).trans (congrArg some (ame hk));rw[hq]at c0;exact asK
theorem aGI(k:Int)(hk:k<0∨3≤k)(p:Value)(w:World) :
  Calls Tryz.prog 10 #[p,aU k] w fun e w'=>e=.returned (aU (-1))∧w'=w:=by
 by_cases h:k<0
 ·exact asK
 ·have h3:3≤k:=bQ;exact asK
theorem aGJ(h:lC w D d vs qs dO)(k:Nat)(hk:k<3) :
  Calls Tryz.prog 11 #[.pointer (some ⟨D,0,none⟩),aU k] w fun e w'=>e=.returned (aU (d.left k))∧w'=w:=by
 refine amf ?_;intro k0 k3 k4;have c0:=(h.img.cell (12+k) bQ).trans (congrArg some (apd hk));exact asL
theorem aGK(k:Int)(hk:k<0∨3≤k)(p:Value)(w:World) :
  Calls Tryz.prog 11 #[p,aU k] w fun e w'=>e=.returned (aU 0)∧w'=w:=by
 by_cases h:k<0
 ·exact asL
 ·have h3:3≤k:=bQ;exact asL
theorem hidx3(a b c:Int)(w:World):(Instr.index 22 (.agg #[aU a,aU b,aU c]) (aU 0)).run Tryz.prog w=.ok (aU a) w∧(Instr.index 22 (.agg #[aU a,aU b,aU c]) (aU 1)).run Tryz.prog w=.ok (aU b) w ∧
  (Instr.index 22 (.agg #[aU a,aU b,aU c]) (aU 2)).run Tryz.prog w=.ok (aU c) w:=⟨by kernel_rfl,by kernel_rfl,by kernel_rfl⟩
theorem aGL(may:Nat→Int)(hm:∀ k,k<3→1≤may k∧may k≤1000)(w:World) :
  Calls Tryz.prog 5 #[.agg #[aU (may 0),aU (may 1),aU (may 2)]] w fun e w'=>∃ D,e=.returned (.tuple #[.pointer (some ⟨D,0,none⟩),.nilIface])∧w.heap.size≤D ∧
   lC w' D (HD.zero may) (fun _=>.slice none 0 0) (fun _=>.slice none 0 0) (fun _=>[])∧Below w.heap.size w w':=by
 obtain⟨a0,b0⟩:=hm 0 bQ;obtain⟨a1,b1⟩:=hm 1 bQ;obtain⟨a2,b2⟩:=hm 2 bQ;have e0:¬may 0<1:=bQ;have e1:¬may 1<1:=bQ;have e2:¬may 2<1:=bQ;have f0:¬1000<may 0:=bQ;have f1:¬1000<may 1:=bQ;have f2:¬1000<may 2:=bQ;have ix0:=fun w=>(hidx3 (may 0) (may 1) (may 2) w).1;have ix1:=fun w=>(hidx3 (may 0) (may 1) (may 2) w).2.1;have ix2:=fun w=>(hidx3 (may 0) (may 1) (may 2) w).2.2;go_enter Tryz.func5,Tryz.ntmps5;go_wp2_with fail;refine wp_loop_rounds 4 ?_;rw[rounds_succ];go_wp2_with (rw[rounds_succ]);refine bodyPost_ret (v:=.tuple #[.pointer (some ⟨w.heap.size+1,0,none⟩),.nilIface]) (by simp[results,Tryz.results5,go_sem]) rfl ⟨_,rfl,by omega,?_,?_⟩
 ·have hb:∀ (o:Obj) (c:Array Value),((w.alloc o).alloc (.cells c 78 (0,0))).heap[w.heap.size+1]?=some (.cells c 78 (0,0)):=fun o c=>by simpa using heap_alloc_new (w.alloc o) (.cells c 78 (0,0))
  refine⟨?_,⟨_,hb _ _⟩,fun k hk=>uP.zero _,fun k hk=>Et.zero _,fun j k b hj hk ne e=>(by cases e),fun j k b hj hk ne e=>(by cases e)⟩;refine Img.of_cells (hb _ _) rfl fun j hj=>?_;have hj:j<16:=hj;exact aya
 ·exact((Below.refl _ _).alloc (Nat.le_refl _) _).alloc dY _
theorem aGM(may:Nat→Int)(hm:∃ k,k<3∧¬(1≤may k∧may k≤1000))(w:World) :
  Calls Tryz.prog 5 #[.agg #[aU (may 0),aU (may 1),aU (may 2)]] w fun e w'=>e=.returned (.tuple #[.pointer none,.iface 30 (aU 2)])∧Below w.heap.size w w':=by
 have ix0:=fun w=>(hidx3 (may 0) (may 1) (may 2) w).1;have ix1:=fun w=>(hidx3 (may 0) (may 1) (may 2) w).2.1;have ix2:=fun w=>(hidx3 (may 0) (may 1) (may 2) w).2.2;have hor:¬(1≤may 0∧may 0≤1000)∨¬(1≤may 1∧may 1≤1000)∨¬(1≤may 2∧may 2≤1000):=by
  obtain⟨k,hk,h⟩:=hm;have hk':k=0∨k=1∨k=2:=bQ;rcases hk' with rfl|rfl|rfl
  ·exact .inl h
  ·exact .inr (.inl h)
  ·exact .inr (.inr h)
 clear hm;go_enter Tryz.func5,Tryz.ntmps5;go_wp2_with fail;refine wp_loop_rounds 4 ?_;rw[rounds_succ];go_wp2_with (rw[rounds_succ]);all_goals first
  |(exact bodyPost_ret (v:=.tuple #[.pointer none,.iface 30 (aU 2)]) (by simp[results,Tryz.results5,go_sem]) rfl ⟨rfl,((Below.refl _ _).alloc (Nat.le_refl _) _)⟩)
  |(exfalso;simp at *;omega)
end Go.Proofs.YtglilddlhibogaaGreatDoor.W
namespace Go.Proofs.YtglilddlhibogaaGreatDoor.W
open Go.RowKit Go.Proofs.YtglilddlhibogaaGreatDoor.P
theorem aGb:((Tryz.prog).info? 125).map (fun i=>(i.zero,i.size,i.bytes))=some (some (.agg #[aU 0,aU 0,aU 0,aU 0,aU 0,aU 0,aU 0,aU 0]),8,64):=dF
theorem asG{P:Program}(w:World)(t ty e:TypeId)(i:TypeInfo)(ht:P.underlying t=some (.slice e))(hi:P.info? e=some i)
  (g off sLen sCap:Nat) (cur:Array Value) (hg:w.heap[g]?=some (.cells cur e (0,0)))
  (a:Addr) (m c:Nat) (news:List Value) (hl:news.length=m*i.size) (hnews:∀ j u,news[j]?=some u→w.cell? (a.add j)=some u) (h1:∀ u∈news,u.oneCell'=true)
  (hroom:sLen+m≤sCap) (hfit:off+sLen*i.size+news.length≤cur.size) :
  (Builtin.append_ #[t,t] ty #[.slice (some ⟨g,off,none⟩) sLen sCap,.slice (some a) m c]).run P w =
   .ok (.slice (some ⟨g,off,none⟩) (sLen+m) sCap) (w.setRow g (cur.toList.take (off+sLen*i.size)++news++cur.toList.drop (off+sLen*i.size+news.length)).toArray):=by
 have hf:=run_firstCells_some (P:=P) w i.size m a m c news hl hnews;have hst:=run_storeCells_at P g (off+sLen*i.size) e news 0 cur w hg (by simpa using hfit) h1;exact axQ
theorem ao8(f:Nat→Int):∀ u∈t8 f,u.oneCell'=true:=by
 intro u hu;simp only[t8,List.mem_cons,List.not_mem_nil,or_false]at hu;rcases hu with rfl|rfl|rfl|rfl|rfl|rfl|rfl|rfl<;>rfl
theorem aGc(W:World)(q:List (Nat→Int))(v:Value)(told:Nat→Int)(ad c:Nat)(h:Et W q v)(hn:q.length<20)(had:∀ j u,(t8 told)[j]?=some u→W.cell? ⟨ad,j,none⟩=some u) :
  ∃ v' W',(∀ ty,(Builtin.append_ #[75,75] ty #[v,.slice (some ⟨ad,0,none⟩) 1 c]).run Tryz.prog W=.ok v' W')∧Et W' (q++[told]) v'∧W.grownBy W' v.ownBlock∧(v'.ownBlock=v.ownBlock∨∀ b,v'.ownBlock=some b→W.heap.size≤b):=by
 obtain⟨i0,hi,hq⟩:=Option.map_eq_some_iff.1 aGb;have hz0:i0.zero=some _:=congrArg (·.1) hq;have hz1:i0.size=8:=congrArg (·.2.1) hq;have hz2:i0.bytes=64:=congrArg (·.2.2) hq;have hadd:∀ b k j,(⟨b,k,none⟩:Addr).add j=⟨b,k+j,none⟩:=fun b k j=>by unfold Addr.add;split<;>simp_all
 have aey:∀ j u,(t8 told)[j]?=some u→W.cell? ((⟨ad,0,none⟩:Addr).add j)=some u:=fun j u hj=>by rw[hadd,Nat.zero_add];exact had j u hj
 obtain⟨og,cap,rfl,hcap,hmax,hk⟩:=h;by_cases hr:q.length+1≤cap
 ·rcases hk with ⟨-,h0⟩|⟨g,o,cur,rfl,hg,hsz,hxs⟩
  ·omega
  refine⟨_,_,fun ty=>asG W _ ty 125 i0 Tryz.underlying75 hi g (o*8) q.length cap cur hg ⟨ad,0,none⟩ 1 c (t8 told) (by rw[hz1];rfl) aey (ao8 told) hr (by rw[hz1,Gq];omega),?_,?_,.inl rfl⟩
  ·exact axR
  ·exact axS
 ·have hold:(Builtin.firstCells i0.size q.length (.slice og q.length cap)).run Tryz.prog W.drew=.ok (q.flatMap t8).toArray W.drew:=by
   rw[hz1];rcases hk with ⟨rfl,h0⟩|⟨g,o,cur,rfl,hg,hsz,hxs⟩
   ·exact axT
   ·refine run_firstCells_some W.drew 8 q.length ⟨g,o*8,none⟩ q.length cap (q.flatMap t8) (aaG Gq q) fun j u hj=>?_;rw[hadd];show W.cell? _=_;rw[cell_of_row W g (o*8+j) cur 125 (0,0) hg];exact axU
  have hsrc:Src Tryz.prog i0.size 75 (.slice (some ⟨ad,0,none⟩) 1 c) 1 (t8 told) W:=by
   rw[hz1];exact Src.ofSlice W Tryz.underlying75 ⟨ad,0,none⟩ 1 c (t8 told) rfl aey (ao8 told)
  obtain⟨z,hz,hzs⟩:∃ z,i0.zero=some z∧z.cells.size=8:=⟨_,hz0,rfl⟩;have hcl:cap≤q.length:=bQ;refine⟨_,_,fun ty=>run_append_grow_src W _ _ ty 125 i0 z Tryz.underlying75 hi hz og q.length cap (q.flatMap t8) hold _ 1 (t8 told) hsrc bQ bQ asH,?_,?_,.inr fun b hb=>ao9⟩
  ·refine⟨_,grownCap W (q.length+1) cap 125,by rw[List.length_append];rfl,by rw[List.length_append];exact grownCap_ge W _ _ _,grownCap_le_maxLen W _ _ _ JF,.inr ⟨W.heap.size,0,_,rfl,heap_alloc_new W.drew _,?_,?_⟩⟩
   ·have hge:=grownCap_ge W (q.length+1) cap 125;exact axV
   ·exact axW
  ·exact asI
theorem apa{P:Program}{ops:Array Oper}{o:Oper}{a:Act}{w:World}{K:Act→World→Prop}{Q:Exit→Act→World→Prop}{E:Prop}
  (hg:o.guard=none) (d x:Operand) (dT sT:TypeId) (hop:o.op=Op.call { callee:=Callee.builtin Builtin.append,args:=#[d,x],argTypes:=#[dT,sT]})
  (v u:Value) (hd:a.eval d=v) (hx:a.eval x=u) {v':Value} {w':World} (hr:(Builtin.append_ #[dT,sT] o.type #[v,u]).run P w=.ok v' w') (hK:K (a.put o.dst v') w') :
  if Region.wanted o (yielded ops a.tmps)=true then Oper.wp P o a w K Q else E:=by
 exact axX
variable{w:World}{D:Nat}{d:HD}{vs qs:Nat→Value}{dO:Nat→List (HP × Value)}
theorem aGd{d:HD}{vs qs:Nat→Value}{k:Nat}(hk:k<3)(q:List (Nat→Int))(v:Value):∀ j,j<16→upd (Cm d vs qs) (6+k) v j=Cm { d with q:=upd d.q k q} vs (upd qs k v) j:=by
 intro j hj;by_cases e:j=6+k
 ·subst e;rw[upd_same,ame hk,upd_same]
 ·rw[fB e];unfold Cm;simp only;by_cases h6:j<6
  ·rw[dB h6,dB h6]
  ·rw[dw h6,dw h6];by_cases h9:j<9
   ·rw[dB h9,dB h9,fB bQ]
   ·rw[dw h9,dw h9]
theorem Qm{w:World}{b:Nat}{t:TypeId}(h:Typed w b t)(p:Addr)(u:Value):Typed (w.setCell p u) b t:=by
 obtain⟨c,hc⟩:=h;by_cases e:b=p.block
 ·subst e;have:(w.setCell p u).heap[p.block]?=some (.cells (if p.spot.isSome then c else c.setIfInBounds p.off u) t (0,0)):=by
   simp[World.setCell,Array.getElem?_modify,hc]
  exact⟨_,this⟩
 ·exact⟨c,(Below.heap_setCell w p u b e).trans hc⟩
theorem lC.apb{w W':World}{D:Nat}{d:HD}{vs qs:Nat→Value}{dO:Nat→List (HP × Value)}(h:lC w D d vs qs dO){k:Nat}(hk:k<3)(hf:dQ (fun b=>(qs k).ownBlock=some b) w W'){q':List (Nat→Int)}{v':Value}(hq:Et W' q' v')
  (hown:(∀ b,v'.ownBlock=some b→(qs k).ownBlock=some b)∨∀ b,v'.ownBlock=some b→w.heap.size≤b) :
  lC (W'.setCell ⟨D,6+k,none⟩ v') D { d with q:=upd d.q k q'} vs (upd qs k v') dO∧dQ (kQ D vs qs) w (W'.setCell ⟨D,6+k,none⟩ v')∧∀ b,kQ D vs (upd qs k v') b→kQ D vs qs b∨w.heap.size≤b:=by
 have hD:=h.typed.lt;have nD:∀ b,(qs k).ownBlock=some b→b≠D:=fun b hb=>((h.queue k hk).typed b hb).ne h.typed dS;have hDf:W'.heap[D]?=w.heap[D]?:=hf.block D hD (fun e=>nD D e rfl);have hTD:Typed W' D 78:=axY;have hfs:dQ (fun b=>b=D) W' (W'.setCell ⟨D,6+k,none⟩ v'):=⟨rfl,rfl,rfl,by simp,fun b _ hb=>Below.heap_setCell _ _ _ _ hb⟩;have qlt:∀ b,(qs k).ownBlock=some b→b<w.heap.size:=fun b hb=>((h.queue k hk).typed b hb).lt;have apc:∀ b,v'.ownBlock=some b→(qs k).ownBlock=some b∨w.heap.size≤b:=fun b hb=>by
  rcases hown with x|x
  ·exact .inl (x b hb)
  ·exact .inr (x b hb)
 have hall:dQ (kQ D vs qs) w (W'.setCell ⟨D,6+k,none⟩ v'):=(hf.mono (fun b _ hb=>.inr ⟨k,hk,.inr hb⟩)).trans (hfs.mono fun b _ hb=>.inl hb);refine⟨⟨?_,Qm hTD _ _,fun j hj=>?_,fun j hj=>?_,h.Y4,fun i j b hi hj ne ei ej=>?_⟩,hall,fun b hb=>?_⟩
 ·exact((h.img.of_block hDf).set bQ v').congr (aGd hk q' v')
 ·refine((h.chain j hj).fG hf (fun b hb hq=>?_) (fun b ht hq=>?_)).fG hfs (fun b hb e=>?_) (fun b ht e=>?_)
  ·exact((kD (h.chain j hj).row b hb).ne ((h.queue k hk).typed b hq) dS) rfl
  ·exact(ht.ne ((h.queue k hk).typed b hq) dS) rfl
  ·exact((kD (h.chain j hj).row b hb).ne h.typed dS) e
  ·exact(ht.ne hTD dS) e
 ·by_cases e:j=k
  ·subst e;simp only[upd_same];exact hq.fG hfs fun b hb e=>(hq.typed b hb).ne hTD dS e
  ·simp only[fB e];refine((h.queue j hj).fG hf (fun b hb hq=>h.Td j k b hj hk e hb hq)).fG hfs fun b hb e=>((h.queue j hj).typed b hb).ne h.typed dS e
 ·exact axZ
 ·exact ax0
theorem aGe(h:lC w D d vs qs dO)(k:Nat)(hk:k<3)(told:Nat→Int)(hq:(d.q k).length<20) :
  Calls Tryz.prog 19 #[.pointer (some ⟨D,0,none⟩),aU k,.agg (t8 told).toArray] w fun e w'=>e=.returned .nilIface∧∃ iW,lC w' D (d.event k told) vs iW dO∧dQ (kQ D vs qs) w w'∧∀ b,kQ D vs iW b→kQ D vs qs b∨w.heap.size≤b:=by
 refine amf ?_;intro k0 k3 k4;have kq:¬20≤((d.q k).length:Int):=bQ;unfold t8;obtain⟨og,cap,yZ⟩:=(h.queue k hk).form;have c0:=(h.img.cell (6+k) bQ).trans (congrArg some (ame hk));rw[yZ]at c0;have g0:=h.img.free (6+k) bQ;have hD:=h.typed.lt;have H:=bW h;clear h;obtain⟨W,hW⟩:∃ W,W=((w.alloc (.cells #[aU (told 0),aU (told 1),aU (told 2),aU (told 3),aU (told 4),aU (told 5),aU (told 6),aU (told 7)] 34)).alloc (.cells #[aU (told 0),aU (told 1),aU (told 2),aU (told 3),aU (told 4),aU (told 5),aU (told 6),aU (told 7)] 125)).drew:=⟨_,rfl⟩;have hbW:Below w.heap.size w W:=hW▸(((Below.refl _ _).alloc (Nat.le_refl _) _).alloc dY _).drew;have hqW:Et W (d.q k) (qs k):=(H.out.queue k hk).fG (M:=fun _=>False) (dQ.of hbW) (fun _ _=>id);obtain⟨v',W',hrun,hq',hgr,hown⟩:=aGc W (d.q k) (qs k) told (w.heap.size+1) 1 hqW hq (fun j u hj=>by
  rw[hW]
  have:=heap_alloc_new (w.alloc (.cells #[aU (told 0),aU (told 1),aU (told 2),aU (told 3),aU (told 4),aU (told 5),aU (told 6),aU (told 7)] 34)) (.cells #[aU (told 0),aU (told 1),aU (told 2),aU (told 3),aU (told 4),aU (told 5),aU (told 6),aU (told 7)] 125)
  rw[World.size_alloc]at this
  exact(cell_of_row _ (w.heap.size+1) j _ _ (0,0) this).trans (by simpa[t8]using hj))
 obtain⟨og',cap',rfl⟩:=hq'.form;have hDn:(qs k).ownBlock≠some D:=fun e=>by
  have:=((H.out.queue k hk).typed D e).ne H.out.typed dS;exact this rfl
 have hDW:W.heap[D]?=w.heap[D]?:=hbW.block D hD;have aaI:W'.heap[D]?=w.heap[D]?:=(hgr.block D (Nat.lt_of_lt_of_le hD hbW.size) (fun e=>hDn e.symm)).trans hDW;have c1:W'.cell? ⟨D,6+k,none⟩=some (.slice og (d.q k).length cap):=(World.cell?_of_block (w:=w) (a:=⟨D,6+k,none⟩) aaI).trans c0;have g1:W'.frozen? ⟨D,6+k,none⟩=false:=(World.frozen?_of_block (w:=w) (a:=⟨D,6+k,none⟩) aaI).trans g0;rw[yZ,hW]at hrun;have wV:=hrun;have mixed:Tryz.prog.follows .mixedOrders=true:=dF;have HW:=bW hW;have LD:=bW hbW;have HQ:=bW hq';have HG:=bW hgr;have HDW:=bW aaI;clear hW hbW hqW hq' hgr hDW aaI hrun;go_enter Tryz.func19,Tryz.ntmps19;go_upto_region 5 with fail;go_region_law_o (refine apa rfl (.tmp 32) (.tmp 35) 75 75 rfl (.slice og (d.q k).length cap) (.slice (some ⟨w.heap.size+1,0,none⟩) 1 1) acN acN (wV _) ?_)
 all_goals
  go_wp2_with fail;go_ret
  refine ax1 ?_;intro hf;have hset:=H.out.apb hk hf HQ.out (by
   rcases hown with x|x
   ·exact .inl fun b hb=>by rw[←x];exact hb
   ·exact .inr fun b hb=>Nat.le_trans LD.out.size (x b hb))
  have he:d.event k told={ d with q:=upd d.q k (d.q k++[told])}:=by unfold HD.event;rw[dw bQ]
  rw[he];simpa using hset
theorem aGf(h:lC w D d vs qs dO)(k:Nat)(hk:k<3)(told:Nat→Int)(hq:20≤(d.q k).length) :
  Calls Tryz.prog 19 #[.pointer (some ⟨D,0,none⟩),aU k,.agg (t8 told).toArray] w fun e w'=>e=.returned (.iface 30 (aU 12))∧Below w.heap.size w w':=by
 refine amf ?_;intro k0 k3 k4;have kq:20≤((d.q k).length:Int):=bQ;unfold t8;obtain⟨og,cap,yZ⟩:=(h.queue k hk).form;have c0:=(h.img.cell (6+k) bQ).trans (congrArg some (ame hk));rw[yZ]at c0;have hD:=h.typed.lt;clear h;exact asJ
theorem aGg(k:Int)(hk:k<0∨3≤k)(p:Value)(told:Nat→Int)(w:World) :
  Calls Tryz.prog 19 #[p,aU k,.agg (t8 told).toArray] w fun e w'=>e=.returned (.iface 30 (aU 2))∧Below w.heap.size w w':=by
 unfold t8;by_cases h:k<0
 ·exact asJ
 ·have h3:3≤k:=bQ;exact asJ
end Go.Proofs.YtglilddlhibogaaGreatDoor.W
namespace Go.Proofs.YtglilddlhibogaaGreatDoor.P
open Go.RowKit (wrap64)
def oQ(v:Val)(w:Wh):Prop:=w.kind=0∨(1≤w.kind∧w.kind≤4∧v.kind=w.kind∧w.b.Has v.n)∨(w.kind=5∧(v.kind=4∨v.kind=1)∧v.n=0)
def Gn(M:dM)(s:VS):Prop:=(∀ r,oQ (M.regs r) (s.regs r))∧(∀ r,oQ (M.slots r) (s.slots r))
theorem oQ.nil{v:Val}:oQ v .nil:=.inl rfl
theorem oQ.num{n:Int}{b:B}(h:b.Has n):oQ (.num n) (.num b):=.inr (.inl ⟨by simp[Wh.num],by simp[Wh.num],rfl,h⟩)
theorem oQ.upd{f:Nat→Val}{g:Nat→Wh}(h:∀ r,oQ (f r) (g r))(i:Nat){v:Val}{w:Wh}(hv:oQ v w):∀ r,oQ (upd f i v r) (upd g i w r):=by
  intro r;by_cases e:r=i
  · subst e;rw[upd_same,upd_same];exact hv
  · rw[fB e,fB e];exact h r
theorem oQ.nonzero{v:Val}{w:Wh}(h:oQ v w)(hw:w.kind≠0):v.kind≠0:=by unfold oQ at h;omega
theorem oQ.is1{v:Val}{w:Wh}(h:oQ v w)(hw:w.kind=1):v.kind=1∧w.b.Has v.n:=by
  rcases h with h|⟨a,b,c,d⟩|h
  · omega
  · exact⟨by omega,d⟩
  · omega
theorem oQ.place{v:Val}{w:Wh}(h:oQ v w)(hw:w.kind=2∨w.kind=3∨w.kind=4):v.kind=w.kind∧w.b.Has v.n:=by
  rcases h with h|⟨a,b,c,d⟩|h
  · omega
  · exact⟨c,d⟩
  · omega
theorem acG(n:Int):(eH n).Has n:=⟨Int.le_refl _,Int.le_refl _⟩
theorem awX{v:Val}{w:Wh}(h:oQ v w)(hw:iL w){o:Int}(ho:In64 o)(h0:(iD w o).2=0) :
    (far v o).2=0∧(iD w o).1.Has (far v o).1∧v.kind=w.kind:=by
  have hk:=acH hw h0;obtain⟨e,h1,h2⟩:=agI hw h0;obtain⟨k,hn⟩:=h.place hk;have hs:(iD w o).1.Has (wrap64 (v.n+o)):=by rw[e];exact aoO (c:=2) hw.2 (Dt ho) hn (acG o)
  have hs':=hs;unfold B.Has at hs;unfold far;rw[k,dw bQ,dw bQ,dw bQ];exact⟨rfl,hs',rfl⟩
theorem awY{sl:Nat→Wh}:∀ (n k:Nat) (acc:B) {x:Wh},wB sl n k acc=(x,0)→x.kind=1∧(∀ m,acc.Has m→x.b.Has m)∧∀ j,k≤j→j<k+n→(sl j).kind=1∧∀ m,(sl j).b.Has m→x.b.Has m
  |0,k,acc,x,h=>by
    injection h with e;subst e
    exact⟨rfl,fun m hm=>hm,fun j h1 h2=>by omega⟩
  |n+1,k,acc,x,h=>by
    unfold wB at h;split at h
    · injection h with _ e;simp at e
    rename_i k0;split at h
    · injection h with _ e;simp at e
    rename_i k1;obtain⟨h1,h2,h3⟩:=awY n (k+1) _ h;have ja:∀ m,acc.Has m∨(sl k).b.Has m→(wU acc (sl k).b).Has m:=fun m hm=>by
      unfold wU B.Has at *;simp only;omega
    refine⟨h1,fun m hm=>h2 m (ja m (.inl hm)),fun j j1 j2=>?_⟩;by_cases e:j=k
    · subst e;exact⟨by omega,fun m hm=>h2 m (ja m (.inr hm))⟩
    · exact h3 j bQ bQ
theorem aFU{M:dM}{s:VS}(hR:Gn M s)(hN:AX M){told:Nat→Int}(ht:∀ r,In64 (told r)){v:Val}{w:Wh}(h:oQ v w)(hw:iL w){o:Int}(ho:In64 o)(h0:(s.load w o).2=0) :
    (M.load told v o).2=0∧oQ (M.load told v o).1 (s.load w o).1:=by
  have hf0:(iD w o).2=0:=by
    by_cases e:(iD w o).2=0
    · exact e
    · unfold VS.load at h0;rw[dB e]at h0;exact absurd h0 e
  obtain⟨f0,fb,fk⟩:=awX h hw ho hf0;have hk:=acH hw hf0;obtain⟨-,lo,hi⟩:=agI hw hf0;unfold VS.load at h0 ⊢;unfold dM.load;simp only[hf0,f0,ne_eq,not_true_eq_false,if_false,fk]at h0 ⊢;by_cases e3:w.kind=3
  · rw[e3]at lo hi;simp only[low,high,if_true]at lo hi;simp only[e3,not_true_eq_false,if_false,show¬(3:Int)=2 by omega,show¬(3:Int)=4 by omega]at h0 ⊢;obtain⟨b1,b2⟩:=fb;by_cases el:(iD w o).1.lo=(iD w o).1.hi
    · simp only[el,if_true]at h0 ⊢;have ek:(far v o).1=(iD w o).1.hi:=bQ;rw[ek];have hr:=hR.2 ((iD w o).1.hi+16).toNat;by_cases k0:(s.slots ((iD w o).1.hi+16).toNat).kind=0
      · rw[dB k0]at h0;simp at h0
      · simp only[dw k0,dw (hr.nonzero k0)];exact⟨trivial,hr⟩
    · simp only[el,if_false]at h0 ⊢;obtain⟨h1,h2,h3⟩:=awY (sl:=s.slots) _ _ _ (x:=(wB s.slots ((iD w o).1.hi-(iD w o).1.lo+1).toNat ((iD w o).1.lo+16).toNat (s.slots ((iD w o).1.lo+16).toNat).b).1) (Prod.ext rfl h0);obtain⟨j1,j2⟩:=h3 ((far v o).1+16).toNat bQ bQ;obtain⟨m1,m2⟩:=(hR.2 ((far v o).1+16).toNat).is1 j1;rw[dw bQ];exact⟨rfl,.inr (.inl ⟨by omega,by omega,by simp only;omega,j2 _ m2⟩)⟩
  · simp only[e3,not_false_eq_true,if_true]at h0 ⊢;by_cases e2:w.kind=2
    · simp only[e2,if_true];exact⟨trivial,oQ.num (Ud (ht _))⟩
    · have e4:w.kind=4:=by omega
      simp only[e4,show¬(4:Int)=2 by omega,if_true,if_false];exact⟨trivial,oQ.num (Ud (hN.2.2 _))⟩
theorem aFV{M:dM}{s:VS}(hR:Gn M s){v x:Val}{w y:Wh}(h:oQ v w)(hw:iL w)(hx:oQ x y){o:Int}(ho:In64 o)(h0:(s.store w o y).2=0) :
    (M.store v o x).2=0∧Gn (M.store v o x).1 (s.store w o y).1:=by
  have hf0:(iD w o).2=0:=by
    by_cases e:(iD w o).2=0
    · exact e
    · unfold VS.store at h0;rw[dB e]at h0;exact absurd h0 e
  obtain⟨f0,fb,fk⟩:=awX h hw ho hf0;have hk:=acH hw hf0;unfold VS.store at h0 ⊢;unfold dM.store;simp only[hf0,f0,ne_eq,not_true_eq_false,if_false,fk]at h0 ⊢;by_cases e2:w.kind=2
  · rw[dB e2]at h0;simp at h0
  simp only[e2,if_false]at h0 ⊢;by_cases y0:y.kind=0
  · rw[dB y0]at h0;simp at h0
  have x0:=hx.nonzero y0;simp only[y0,x0,if_false]at h0 ⊢;by_cases e4:w.kind=4
  · simp only[e4,true_and,if_true,show¬(4:Int)=3 by omega,if_false]at h0 ⊢;by_cases y1:y.kind=1
    · simp only[y1,not_true_eq_false,if_false,(hx.is1 y1).1]at h0 ⊢;exact⟨trivial,hR⟩
    · simp only[y1,not_false_eq_true,if_true]at h0;simp at h0
  · have e3:w.kind=3:=by omega
    simp only[e3,show¬(3:Int)=4 by omega,false_and,if_true,if_false]at h0 ⊢;obtain⟨b1,b2⟩:=fb;by_cases el:(iD w o).1.lo=(iD w o).1.hi
    · have ek:(far v o).1=(iD w o).1.hi:=by omega
      simp only[el,not_true_eq_false,if_false,ek]at h0 ⊢;exact⟨trivial,hR.1,oQ.upd hR.2 _ hx⟩
    · simp only[el,not_false_eq_true,if_true]at h0;simp at h0
theorem aoP{M:dM}{s:VS}(hR:Gn M s)(t:Step):oQ (M.second t) (s.second t):=by
  unfold dM.second VS.second;split
  · exact hR.1 _
  · exact oQ.num (acG _)
theorem awZ{a b:Val}{x y:Wh}(ha:oQ a x)(hb:oQ b y)(hx:iL x)(hy:iL y)(hax:x.kind≠1){c:Int}(h0:(Wy c x y).2=0)(hc0:x.kind≠0) :
    (c=2∨c=3)∧b.kind=1∧(a.kind=x.kind∧x.kind≠1∧x.kind≠5)∧oQ ⟨a.kind,does c a.n b.n,a.cell⟩ (Wy c x y).1:=by
  unfold Wy at *;split at h0
  · simp at h0
  rename_i h1;rw[dw h1];split at h0
  · simp at h0
  rename_i h2;rw[dw h2];have hk:=hx.1;obtain⟨k1,m1⟩:=ha.place bQ;obtain⟨k2,m2⟩:=hb.is1 bQ;refine⟨by omega,k2,⟨k1,hax,by omega⟩,.inr (.inl ⟨by simp only;omega,by simp only;omega,k1,aoO hx.2 hy.2 m1 m2⟩)⟩
theorem aFW{a b:Val}{x y:Wh}(ha:oQ a x)(hb:oQ b y)(hx:iL x)(hy:iL y){c:Int}(h0:(qJ c x y).2=0):(qM c a b).2=0∧oQ (qM c a b).1 (qJ c x y).1:=by
  unfold qJ at h0 ⊢;by_cases h1:y.kind=0∨(x.kind=0∧c≠1)
  · rw[dB h1]at h0;simp at h0
  rw[dw h1]at h0 ⊢;have hb0:b.kind≠0:=hb.nonzero bQ;by_cases h2:c=1
  · rw[dB h2];unfold qM;rw[dw bQ,dB h2];exact⟨rfl,hb⟩
  rw[dw h2]at h0 ⊢;have ha0:a.kind≠0:=ha.nonzero bQ;unfold qM;rw[dw bQ,dw h2];by_cases h3:x.kind=1∧y.kind=1
  · rw[dB h3];obtain⟨k1,m1⟩:=ha.is1 h3.1;obtain⟨k2,m2⟩:=hb.is1 h3.2;rw[dB ⟨k1,k2⟩];exact⟨rfl,oQ.num (aoO hx.2 hy.2 m1 m2)⟩
  rw[dw h3]at h0 ⊢;by_cases h4:c=2∧x.kind=1
  · rw[dB h4]at h0 ⊢;obtain⟨k1,m1⟩:=ha.is1 h4.2;obtain⟨g1,g2,g3,g4⟩:=awZ hb ha hy hx bQ h0 bQ;rw[dw bQ,dB ⟨h4.1,k1⟩];refine⟨rfl,?_⟩;rw[←h4.1];exact g4
  · rw[dw h4]at h0 ⊢;by_cases hx1:x.kind=1
    · exfalso;unfold Wy at h0;rw[dB bQ]at h0;simp at h0
    obtain⟨g1,g2,g3,g4⟩:=awZ ha hb hx hy hx1 h0 bQ;rw[dw bQ,dw bQ,dw bQ];exact⟨rfl,g4⟩
theorem aFX{M:dM}{s:VS}(hR:Gn M s){time:Int}(ht:In64 time)(n:Int)(hn:1≤n∧n≤3)(h0:(s.call n).2=0):(M.call time n).2=0∧Gn (M.call time n).1 (s.call n).1:=by
  unfold VS.call at h0 ⊢;by_cases h1:n≠2∧(s.regs 1).kind=0
  · rw[dB h1]at h0;simp at h0
  rw[dw h1]at h0 ⊢;by_cases h2:n≠2∧(s.regs 1).kind≠1
  · rw[dB h2]at h0;simp at h0
  rw[dw h2];unfold dM.call;have hk:n=2∨(M.regs 1).kind=1:=by
    by_cases e:n=2
    · exact .inl e
    · exact .inr ((hR.1 1).is1 bQ).1
  rw[dw bQ,dw bQ];refine⟨rfl,fun r=>?_,hR.2⟩;simp only;by_cases r0:r=0
  · rw[dB r0,dB r0];by_cases n1:n=1
    · rw[dB n1,dB n1];split
      · exact .inr (.inr ⟨rfl,.inl rfl,rfl⟩)
      · exact .inr (.inr ⟨rfl,.inr rfl,rfl⟩)
    · rw[dw n1,dw n1];by_cases n2:n=2
      · rw[dB n2,dw bQ];exact oQ.num (Ud ht)
      · rw[dw n2,dB bQ];exact oQ.num (acG 0)
  · rw[dw r0,dw r0];split
    · exact oQ.nil
    · exact hR.1 r
theorem aFY{M:dM}{s:VS}(hR:Gn M s)(t:Step){x y:B}(hx:(s.regs t.dst.toNat).kind=1→x.Has (M.regs t.dst.toNat).n)(hy:t.reg=true→(s.regs t.src.toNat).kind=1→y.Has (M.regs t.src.toNat).n)
    (h1:(s.regs t.dst.toNat).kind=1) (h2:(s.second t).kind=1):Gn M (s.narrowed t x y):=by
  have self:∀ r,M.regs r=upd M.regs r (M.regs r) r:=fun r=>by rw[upd_same]
  have eta:∀ r:Nat,upd M.regs r (M.regs r)=M.regs:=fun r=>by
    funext j;by_cases e:j=r
    · subst e;rw[upd_same]
    · rw[fB e]
  have kd:=((hR.1 t.dst.toNat).is1 h1).1;have nd:oQ (M.regs t.dst.toNat) ⟨(s.regs t.dst.toNat).kind,x⟩:=.inr (.inl ⟨by simp only;omega,by simp only;omega,by simp only;omega,hx h1⟩);unfold VS.narrowed;by_cases hr:t.reg=true
  · rw[dB hr];split
    · exact hR
    · have h2':(s.regs t.src.toNat).kind=1:=by unfold VS.second at h2;rwa [dB hr]at h2
      have ks:=((hR.1 t.src.toNat).is1 h2').1;have ns:oQ (M.regs t.src.toNat) ⟨(s.regs t.src.toNat).kind,y⟩:=.inr (.inl ⟨by simp only;omega,by simp only;omega,by simp only;omega,hy hr h2'⟩);refine⟨?_,hR.2⟩;have:=oQ.upd (oQ.upd hR.1 t.src.toNat ns) t.dst.toNat nd;rwa [eta,eta]at this
  · rw[dw hr];refine⟨?_,hR.2⟩;have:=oQ.upd hR.1 t.dst.toNat nd;rwa [eta]at this
theorem aw0{M:dM}{s:VS}(hR:Gn M s)(hs:kG s){t:Step}(ht:In64 t.num){c nx:Int}(hi:P.is c (M.regs t.dst.toNat).n (M.second t).n=true)(h1:(s.regs t.dst.toNat).kind=1)(h2:(s.second t).kind=1) :
    ∃ s',s.way t c nx=some (s',nx)∧Gn M s':=by
  have ha:=(hs.1 t.dst.toNat).2;have hb:=(hs.second ht).2;have m1:=((hR.1 t.dst.toNat).is1 h1).2;have m2:=((aoP hR t).is1 h2).2;obtain⟨e,x1,x2⟩:=aso ha hb m1 m2 hi;refine⟨_,dB e,aFY hR t (fun _=>x1) (fun hr _=>?_) h1 h2⟩;have:M.second t=M.regs t.src.toNat:=dB hr;rwa [this]at x2
def Gone(M':dM)(nx:Int)(x y:Option (VS × Int)):Prop:=(∃ s',x=some (s',nx)∧Gn M' s')∨(∃ s',y=some (s',nx)∧Gn M' s')
def aw1(M:dM)(R:JZ):YR→Prop
  |.done b=>∃ n,R=.done M n∧b.Has n
  |.err _=>True
  |.go x y=>∃ M' nx,R=.go M' nx∧Gone M' nx x y
theorem aFZ{M:dM}{s:VS}(hR:Gn M s)(hs:kG s){told:Nat→Int}{time:Int}{t:Step}{pc:Int}(ht:In64 t.num)(hc:15≤t.code∧t.code≤24)(hd:0≤t.dst) :
    aw1 M (M.step told time t pc) (s.asks t pc):=by
  have hst:M.step told time t pc=if(M.asks t).2≠0 then .err (M.asks t).2 else if(M.asks t).1 then .go M (pc+1+t.off)else .go M (pc+1):=by
    unfold dM.step;rw[dw bQ,dw bQ,dB hc]
  have OM:=aoP hR t;unfold VS.asks;split
  · trivial
  rename_i h0;have a0:(M.regs t.dst.toNat).kind≠0:=(hR.1 _).nonzero bQ;have b0:(M.second t).kind≠0:=OM.nonzero bQ;split
  · rename_i h1;have k1:=((hR.1 t.dst.toNat).is1 h1.1).1;have k2:=(OM.is1 h1.2).1;have e:M.asks t=(P.is t.code (M.regs t.dst.toNat).n (M.second t).n,0):=by
      unfold dM.asks;simp only;rw[dw bQ,dB ⟨k1,k2⟩]
    rw[hst,e];simp only[ne_eq,not_true_eq_false,if_false];by_cases hi:P.is t.code (M.regs t.dst.toNat).n (M.second t).n=true
    · rw[dB hi];exact⟨M,_,rfl,.inr (aw0 hR hs ht hi h1.1 h1.2)⟩
    · rw[dw hi];exact⟨M,_,rfl,.inl (aw0 hR hs ht (by rw[aw2 (by simp[P.asks,hc])];simpa using hi) h1.1 h1.2)⟩
  rename_i h1;split
  · trivial
  rename_i h2;have WA:t.reg=false:=by cases hr:t.reg<;>simp_all
  have es:M.second t=.num 0:=by unfold dM.second;rw[WA];simp only[Bool.false_eq_true,if_false];rw[show t.num=0 by omega]
  have e2:s.second t=.num (eH 0):=by unfold VS.second;rw[WA];simp only[Bool.false_eq_true,if_false];rw[show t.num=0 by omega]
  have x1:(s.regs t.dst.toNat).kind≠1:=fun e=>h1 ⟨e,by rw[e2];rfl⟩;have hk:=(hs.1 t.dst.toNat).1;simp only;by_cases k5:(s.regs t.dst.toNat).kind=5
  · rw[dB k5];have hv:=hR.1 t.dst.toNat;have hv':((M.regs t.dst.toNat).kind=4∨(M.regs t.dst.toNat).kind=1)∧(M.regs t.dst.toNat).n=0:=by unfold oQ at hv;omega
    have eta:upd M.regs t.dst.toNat (M.regs t.dst.toNat)=M.regs:=by
      funext j;by_cases e:j=t.dst.toNat
      · subst e;rw[upd_same]
      · rw[fB e]
    by_cases k4:(M.regs t.dst.toNat).kind=4
    · refine aw3 ?_;intro e;have hs4:Gn M (s.gu t.dst ⟨4,eH 0⟩):=by
        refine⟨?_,hR.2⟩;have:=oQ.upd hR.1 t.dst.toNat (v:=M.regs t.dst.toNat) (w:=⟨4,eH 0⟩) (.inr (.inl ⟨by simp,by simp,k4,by rw[hv'.2];exact acG 0⟩));rwa [eta]at this
      by_cases c16:t.code=16
      · simp only[c16,if_true];exact⟨M,_,rfl,.inr ⟨_,rfl,hs4⟩⟩
      · simp only[c16,if_false];exact⟨M,_,rfl,.inr ⟨_,rfl,hs4⟩⟩
    · have k1:(M.regs t.dst.toNat).kind=1:=by omega
      have e:M.asks t=(P.is t.code (M.regs t.dst.toNat).n (M.second t).n,0):=by
        unfold dM.asks;simp only;rw[dw bQ,dB ⟨k1,by rw[es];rfl⟩]
      have hs1:Gn M (s.gu t.dst (.num (eH 0))):=by
        refine⟨?_,hR.2⟩;have:=oQ.upd hR.1 t.dst.toNat (v:=M.regs t.dst.toNat) (w:=.num (eH 0)) (.inr (.inl ⟨by simp[Wh.num],by simp[Wh.num],by simpa[Wh.num]using k1,by rw[hv'.2];exact acG 0⟩));rwa [eta]at this
      rw[hst,e,es,hv'.2];have c15:t.code=15∨t.code=16:=bQ;rcases c15 with c|c<;>rw[c]<;>simp[P.is,Val.num]<;>exact⟨M,_,rfl,.inl ⟨_,rfl,hs1⟩⟩
  · rw[dw k5];have hp:=(hR.1 t.dst.toNat).place bQ;refine aw3 ?_;intro e;by_cases c16:t.code=16
    · simp only[c16,if_true];exact⟨M,_,rfl,.inl ⟨s,rfl,hR⟩⟩
    · simp only[c16,if_false];exact⟨M,_,rfl,.inl ⟨s,rfl,hR⟩⟩
theorem Gn.gu{M:dM}{s:VS}(hR:Gn M s)(r:Int){v:Val}{w:Wh}(h:oQ v w):Gn { M with regs:=P.upd M.regs r.toNat v} (s.gu r w):=⟨oQ.upd hR.1 _ h,hR.2⟩
theorem aF0{M:dM}{s:VS}(hR:Gn M s)(hs:kG s)(hN:AX M){told:Nat→Int}(htl:∀ r,In64 (told r)){time:Int}(um:In64 time){t:Step}{pc:Int}(ht:In64 t.num)(ho:In64 t.off)(hd:0≤t.dst)(hcl:t.code=27→1≤t.num∧t.num≤3) :
    aw1 M (M.step told time t pc) (s.step t pc):=by
  by_cases ha:15≤t.code∧t.code≤24
  · have e:s.step t pc=s.asks t pc:=by unfold VS.step;rw[dw bQ,dw bQ,dB ha]
    rw[e];exact aFZ hR hs ht ha hd
  unfold VS.step dM.step;by_cases c28:t.code=28
  · simp only[c28,if_true];by_cases k1:(s.regs 0).kind=1
    · rw[dB k1,dB ((hR.1 0).is1 k1).1];exact⟨_,rfl,((hR.1 0).is1 k1).2⟩
    · rw[dw k1];by_cases k0:(s.regs 0).kind=0
      · rw[dB k0];trivial
      · rw[dw k0];trivial
  simp only[c28,if_false];by_cases c14:t.code=14
  · simp only[c14,if_true];exact⟨M,_,rfl,.inl ⟨s,rfl,hR⟩⟩
  simp only[c14,ha,if_false];by_cases c25:t.code=25
  · simp only[c25,if_true];by_cases h0:(s.load (s.regs t.src.toNat) t.off).2=0
    · obtain⟨l0,lv⟩:=aFU hR hN htl (hR.1 t.src.toNat) (hs.1 _) ho h0;exact aw4
    · rw[dB (c:=(s.load (s.regs t.src.toNat) t.off).2≠0) h0];trivial
  simp only[c25,if_false];by_cases c26:t.code=26
  · simp only[c26,if_true];by_cases h0:(s.store (s.regs t.dst.toNat) t.off (s.second t)).2=0
    · obtain⟨l0,lv⟩:=aFV hR (hR.1 t.dst.toNat) (hs.1 _) (aoP hR t) ho h0;exact aw5
    · rw[dB (c:=(s.store (s.regs t.dst.toNat) t.off (s.second t)).2≠0) h0];trivial
  simp only[c26,if_false];by_cases c27:t.code=27
  · simp only[c27,if_true];by_cases h0:(s.call t.num).2=0
    · obtain⟨l0,lv⟩:=aFX hR um t.num (hcl c27) h0;exact aw5
    · rw[dB (c:=(s.call t.num).2≠0) h0];trivial
  simp only[c27,if_false];have hop:oQ (if t.code=13 then Val.num 0 else M.second t) (s.operand t):=by
    unfold VS.operand;split
    · exact oQ.num (acG 0)
    · exact aoP hR t
  generalize (if t.code=13 then Val.num 0 else M.second t)=z at hop;by_cases h0:(qJ t.code (s.regs t.dst.toNat) (s.operand t)).2=0
  · obtain⟨l0,lv⟩:=aFW (hR.1 t.dst.toNat) hop (hs.1 _) (hs.operand ht) (c:=t.code) h0;exact aw4
  · rw[dB (c:=(qJ t.code (s.regs t.dst.toNat) (s.operand t)).2≠0) h0];trivial
theorem aF1(S:Nat→Step)(told:Nat→Int)(time:Int)(k:Nat)(M:dM)(pc st:Int):dM.run S told time (k+1) M pc st=(match M.step told time (S pc.toNat) pc with
    |.done M n=>.inr (M,n,st)
    |.err e=>.inl (e,pc)
    |.go M next=>dM.run S told time k M next (st+1)):=rfl
theorem aF2{r:VR}{f:Wk→VR}(h:(J3 r f).1.1=0):r.1.1=0∧J3 r f=f r.2:=by
  unfold J3 at *;split at h
  · rename_i h1;exact absurd h h1
  · rename_i h1;rw[dw h1];exact⟨by simpa using h1,rfl⟩
theorem asq{S:Nat→Step}{n:Nat}(hP:aar S n){told:Nat→Int}(htl:∀ r,In64 (told r)){time:Int}(um:In64 time) :
    ∀ (k:Nat) (M:dM) (s:VS) (pc st:Int) (w:Wk),Gn M s→kG s→Ak M→AX M→0≤pc→pc<n→n≤pc+k→(iO S k s pc w).1.1=0 →
      ∃ M' num st',dM.run S told time k M pc st=.inr (M',num,st')∧(∃ b∈(iO S k s pc w).2.ends,b.Has num)∧st≤st'∧st'+pc<st+n
  |0,M,s,pc,st,w,_,_,_,_,h0,h1,h2,_=>by omega
  |k+1,M,s,pc,st,w,hR,hs,hO,hN,h0,h1,h2,hv=>by
    rw[agJ]at hv ⊢;rw[aF1];by_cases hl:4000<w.looks+1
    · rw[dB hl]at hv;simp at hv
    rw[dw hl]at hv ⊢;have hj:pc.toNat<n:=bQ;have ht:Ue n pc (S pc.toNat):=by have:=hP.step pc.toNat hj;rwa [Int.toNat_of_nonneg h0]at this
    have ho:=hP.off pc.toNat hj;have hw:=aeh (hP.wrong pc.toNat hj);have hsd:=aF0 hR hs hN htl um (pc:=pc) ht.2.2 ho hw.2.1.1 (fun c=>asr hw.2.2.2 c);generalize hT:S pc.toNat=t at *;cases hr:s.step t pc with
    |done b =>
      rw[hr]at hsd;obtain⟨num,e,hb⟩:=hsd;rw[e];exact⟨M,num,st,rfl,⟨b,by simp[J4],hb⟩,Int.le_refl _,by omega⟩
    |err e=>rw[hr]at hv;exact absurd hv (asu hr)
    |go x y =>
      rw[hr]at hsd hv;obtain⟨M',nx,e,hg⟩:=hsd;obtain⟨hx,hy,hxy⟩:=aw6 hs ht hr;obtain⟨hO',hN'⟩:=asi hO hN htl um ht.2.2 e;rw[e];obtain⟨v1,v2⟩:=aF2 hv;have hv2:(rU (iO S k) y (rU (iO S k) x ⟨w.looks+1,w.ends⟩).2).1.1=0:=by rw[←v2];exact hv
      have ev:(J4 (iO S k) pc ⟨w.looks+1,w.ends⟩ (.go x y))=rU (iO S k) y (rU (iO S k) x ⟨w.looks+1,w.ends⟩).2:=v2;rw[ev];rcases hg with ⟨s',rfl,hR'⟩|⟨s',rfl,hR'⟩
      · obtain⟨a,b,c⟩:=hx _ rfl;obtain⟨Mf,num,st',h4,⟨d,hd,hdn⟩,h6,h7⟩:=asq hP htl um k M' s' nx (st+1) ⟨w.looks+1,w.ends⟩ hR' a hO' hN' aoQ c aoQ v1;refine⟨Mf,num,st',h4,⟨d,?_,hdn⟩,by omega,by simp only at b;omega⟩;cases y with
        |none=>exact hd
        |some z =>
          obtain⟨a',b',c'⟩:=hy _ rfl;obtain⟨l,hl,-⟩:=(G7 hP.step k z.1 z.2 (iO S k s' nx ⟨w.looks+1,w.ends⟩).2 a' bQ c' bQ).more;show d∈(iO S k z.1 z.2 (iO S k s' nx ⟨w.looks+1,w.ends⟩).2).2.ends;rw[hl];exact List.mem_append_left _ hd
      · obtain⟨a,b,c⟩:=hy _ rfl;obtain⟨Mf,num,st',h4,⟨d,hd,hdn⟩,h6,h7⟩:=asq hP htl um k M' s' nx (st+1) (rU (iO S k) x ⟨w.looks+1,w.ends⟩).2 hR' a hO' hN' aoQ c aoQ hv2;exact⟨Mf,num,st',h4,⟨d,hd,hdn⟩,by omega,by simp only at b;omega⟩
theorem aF3(cells:Nat→Int):Gn (dM.init cells) VS.init:=by
  refine⟨fun r=>?_,fun r=>.inl rfl⟩;unfold dM.init VS.init;simp only;by_cases h1:r=1
  · rw[dB h1,dB h1];exact .inr (.inl ⟨by simp,by simp,rfl,acG 0⟩)
  rw[dw h1,dw h1];by_cases h2:r=10
  · rw[dB h2,dB h2];exact .inr (.inl ⟨by simp,by simp,rfl,acG 0⟩)
  · rw[dw h2,dw h2];exact .inl rfl
theorem aF4{S:Nat→Step}{n:Nat}(h1:1≤n)(hP:aar S n){told cells:Nat→Int}(htl:∀ r,In64 (told r))(hc:∀ r,In64 (cells r)){time:Int}(um:In64 time)(h:(uo S n).1.1=0) :
    ∃ M' num st',dM.run S told time n (dM.init cells) 0 1=.inr (M',num,st')∧(outOf (uo S n).2.ends).Has num∧1≤st'∧st'≤n:=by
  obtain⟨M',num,st',e,⟨b,hb,hn⟩,h3,h4⟩:=asq hP htl um n (dM.init cells) VS.init 0 1 ⟨0,[]⟩ (aF3 cells) kG.init (Ak.init cells) (AX.init hc) (Int.le_refl _) bQ bQ h;exact⟨M',num,st',e,aF5 hb hn,h3,by omega⟩
end Go.Proofs.YtglilddlhibogaaGreatDoor.P
namespace Go.Proofs.YtglilddlhibogaaGreatDoor.P
theorem aJ8{M:dM}(time n:Int)(h:M.out.length≤50):(M.call time n).1.out.length≤50:=by
  unfold dM.call;split
  · exact h
  split
  · exact h
  · simp only;split
    · simp;omega
    · exact h
theorem aJ9(M:dM)(v:Val)(o:Int)(x:Val):(M.store v o x).1.out=M.out:=by
  unfold dM.store;repeat' split
  all_goals rfl
def aKa:JZ→Prop
  |.done M _=>M.out.length≤50
  |.err _=>True
  |.go M _=>M.out.length≤50
theorem aKb{M:dM}{told:Nat→Int}{time:Int}{t:Step}{pc:Int}(h:M.out.length≤50):aKa (M.step told time t pc):=by
  have h1:=aJ9 M (M.regs t.dst.toNat) t.off (M.second t);have h2:=aJ8 time t.num h;unfold dM.step;simp only;repeat' split
  all_goals first|exact h|exact h2|(show _≤50;rw[h1];exact h)|exact True.intro
theorem aCA(S:Nat→Step)(told:Nat→Int)(time:Int):∀ (k:Nat) (M:dM) (pc st:Int) {M':dM} {n st':Int},M.out.length≤50→dM.run S told time k M pc st=.inr (M',n,st')→M'.out.length≤50
  |0,_,_,_,_,_,_,_,h=>by simp[dM.run]at h
  |k+1,M,pc,st,M',n,st',h0,h=>by
    have hs:=aKb (told:=told) (time:=time) (t:=S pc.toNat) (pc:=pc) h0;rw[dM.run]at h;generalize M.step told time (S pc.toNat) pc=R at h hs;cases R with
    |done M1 n1=>simp only[Sum.inr.injEq,Prod.mk.injEq]at h;obtain⟨rfl,-⟩:=h;exact hs
    |err e=>simp at h
    |go M1 nx=>exact aCA S told time k M1 nx (st+1) hs h
theorem aHE{S:Nat→Step}{n:Nat}(h:(verify S n).1.1=0):(check S n).1=0∧(uo S n).1.1=0∧(verify S n).2=outOf (uo S n).2.ends:=by
  unfold verify at h ⊢;by_cases h1:(check S n).1=0
  · rw[dw AO]at h ⊢;by_cases h2:(uo S n).1.1=0
    · rw[dw Yy];exact⟨h1,h2,rfl⟩
    · rw[dB h2]at h;exact absurd h h2
  · rw[dB h1]at h;exact absurd h h1
end Go.Proofs.YtglilddlhibogaaGreatDoor.P
namespace Go.Proofs.YtglilddlhibogaaGreatDoor.P
open Go.RowKit (wrap64)
theorem ayR:∀ (k:Nat) (s:HS),s.q.length≤k→(drain k s).q=[]∨(drain k s).left≤0
  |0,s,h=>.inl (List.eq_nil_of_length_eq_zero (by unfold drain;omega))
  |k+1,s,h=>by
    unfold drain;cases hq:s.q with
    |nil=>exact .inl hq
    |cons e r =>
      simp only;by_cases hl:0<s.left
      · rw[dB hl];rw[hq]at h;exact ayR k _ (by unfold HS.one;simpa using h)
      · rw[dw hl];exact .inr bQ
theorem avE{α:Type}(f:Nat→α)(i:Nat)(a b:α):upd (upd f i a) i b=upd f i b:=by
  funext j
  by_cases e:j=i
  · subst e;rw[upd_same,upd_same]
  · exact asN
theorem aqL{α:Type}(f:Nat→α)(i:Nat):upd f i (f i)=f:=by
  funext j
  by_cases e:j=i
  · subst e;rw[upd_same]
  · rw[fB e]
theorem aLP:∀ (k:Nat) (s:HS),s.left≤0→drain k s=s
  |0,s,_=>rfl
  |k+1,s,h=>by
    unfold drain;cases s.q with
    |nil=>rfl
    |cons e r=>simp only;rw[dw bQ]
end Go.Proofs.YtglilddlhibogaaGreatDoor.P
