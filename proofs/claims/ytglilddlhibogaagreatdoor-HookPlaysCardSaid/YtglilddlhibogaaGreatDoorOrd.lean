/- A part of the proof; each theorem states its conditions. -/
import Derived.Test.YtglilddlhibogaaGreatDoorPureBound
import Derived.Test.YtglilddlhibogaaGreatDoorPost
import Derived.Test.YtglilddlhibogaaGreatDoorImg
import Derived.Lib.ItoaNum
import Derived.Lib.Join
import Derived.Lib.ParseIntB
import Derived.Lib.IndexAny
import Derived.Lib.SlicesS
import Derived.Lib.SplitLaws
import Derived.Lib.FieldsP
import Derived.Lib.MapLaws
import Derived.StillTail
import Derived.Lib.QuietBelow
import Derived.Deep.RegionHeld3
import Derived.Lib.AppendZerosOnto
import Derived.Lib.Overlaps
import Derived.Laws.CopyOwn
import Derived.Shelf.RegionOpenPlain
set_option linter.unusedSimpArgs false
set_option linter.unusedVariables false
set_option maxRecDepth 100000
set_option maxHeartbeats 100000000
namespace Go.Proofs.YtglilddlhibogaaGreatDoor.P
def num(n:Int):List UInt8:=Lib.itoa n
end Go.Proofs.YtglilddlhibogaaGreatDoor.P
namespace Go.Proofs.YtglilddlhibogaaGreatDoor.P
def step0:Step:=⟨0,0,0,false,0,0⟩
def nth(L:List Step)(i:Nat):Step:=L.getD i step0
end Go.Proofs.YtglilddlhibogaaGreatDoor.P
namespace Go.Proofs.YtglilddlhibogaaGreatDoor.P
def first(S:Nat→Step)(n:Nat):List Step:=(List.range n).map S
theorem amH(S:Nat→Step)(n:Nat):(first S n).length=n:=by simp[first]
theorem ayE(S:Nat→Step)(n i:Nat)(h:i<n):nth (first S n) i=S i:=by
  unfold nth first;rw[List.getD_eq_getElem?_getD];simp[h]
end Go.Proofs.YtglilddlhibogaaGreatDoor.P
namespace Go.Proofs.YtglilddlhibogaaGreatDoor.P
open Go.RowKit (wrap64)
structure Val where
  kind:Int
  n:Int
  cell:Int
def Val.none:Val:=⟨0,0,0⟩
def Val.num(n:Int):Val:=⟨1,n,0⟩
structure dM where
  regs:Nat→Val
  slots:Nat→Val
  cells:Nat→Int
  out:List Int
def low(kind:Int):Int:=if kind=3 then -16 else 0
def high(kind:Int):Int:=if kind=3 then -1 else if kind=4 then 3 else 7
def far(v:Val)(off:Int):Int × Int :=
  if v.kind=0 then(0,8)else if v.kind=1 then(0,1)
  else if wrap64 (v.n+off)<low v.kind∨high v.kind<wrap64 (v.n+off)then(0,2)else(wrap64 (v.n+off),0)
def dM.load(M:dM)(told:Nat→Int)(v:Val)(off:Int):Val × Int :=
  if(far v off).2≠0 then(.none,(far v off).2)
  else if v.kind=2 then(.num (told (far v off).1.toNat),0)
  else if v.kind=4 then(.num (M.cells (v.cell*4+(far v off).1).toNat),0)
  else if(M.slots ((far v off).1+16).toNat).kind=0 then(.none,8)else(M.slots ((far v off).1+16).toNat,0)
def dM.store(M:dM)(v:Val)(off:Int)(x:Val):dM × Int :=
  if(far v off).2≠0 then(M,(far v off).2)
  else if v.kind=2 then(M,6)else if x.kind=0 then(M,8)
  else if v.kind=3 then({ M with slots:=upd M.slots ((far v off).1+16).toNat x},0)
  else if x.kind≠1 then(M,1)else({ M with cells:=upd M.cells (v.cell*4+(far v off).1).toNat x.n},0)
def dM.second(M:dM)(t:Step):Val:=if t.reg then M.regs t.src.toNat else .num t.num
def qM(c:Int)(a b:Val):Val × Int :=
  if b.kind=0∨(a.kind=0∧c≠1)then(.none,8)
  else if c=1 then(b,0)
  else if a.kind=1∧b.kind=1 then(.num (does c a.n b.n),0)
  else if c=2∧a.kind=1 then({ b with n:=does 2 b.n a.n},0)
  else if b.kind≠1∨(c≠2∧c≠3)then(.none,1)
  else({ a with n:=does c a.n b.n},0)
def dM.call(M:dM)(time n:Int):dM × Int :=
  if n≠2∧(M.regs 1).kind=0 then(M,8)else if n≠2∧(M.regs 1).kind≠1 then(M,1)
  else
    let x:=(M.regs 1).n
    let r:Val:=if n=1 then(if 0≤x∧x<4 then⟨4,0,x⟩else .num 0)else if n=2 then .num time else .num 0
    ({ M with regs := fun j => if j = 0 then r else if 1 ≤ j ∧ j ≤ 5 then .none else M.regs j
              out:=if n≠1∧n≠2∧M.out.length<50 then M.out++[x]else M.out},0)
def dM.asks(M:dM)(t:Step):Bool × Int :=
  let a:=M.regs t.dst.toNat
  let b:=M.second t
  if a.kind=0∨b.kind=0 then(false,8)
  else if a.kind=1∧b.kind=1 then(is t.code a.n b.n,0)
  else if t.reg=true∨t.num≠0∨(t.code≠15∧t.code≠16)then(false,1)
  else(decide (t.code=16),0)
inductive JZ where
  |done (M:dM) (n:Int)
  |err (e:Int)
  |go (M:dM) (next:Int)
def dM.step(M:dM)(told:Nat→Int)(time:Int)(t:Step)(pc:Int):JZ :=
  if t.code=28 then(if(M.regs 0).kind=1 then .done M (M.regs 0).n else if(M.regs 0).kind=0 then .err 8 else .err 1)
  else if t.code=14 then .go M (pc+1+t.off)
  else if 15≤t.code∧t.code≤24 then(if(M.asks t).2≠0 then .err (M.asks t).2 else if(M.asks t).1 then .go M (pc+1+t.off)else .go M (pc+1))
  else if t.code=25 then(if(M.load told (M.regs t.src.toNat) t.off).2≠0 then .err (M.load told (M.regs t.src.toNat) t.off).2
    else .go { M with regs:=upd M.regs t.dst.toNat (M.load told (M.regs t.src.toNat) t.off).1} (pc+1))
  else if t.code=26 then(if(M.store (M.regs t.dst.toNat) t.off (M.second t)).2≠0 then .err (M.store (M.regs t.dst.toNat) t.off (M.second t)).2
    else .go (M.store (M.regs t.dst.toNat) t.off (M.second t)).1 (pc+1))
  else if t.code=27 then(if(M.call time t.num).2≠0 then .err (M.call time t.num).2 else .go (M.call time t.num).1 (pc+1))
  else
    let b:=if t.code=13 then Val.num 0 else M.second t
    if(qM t.code (M.regs t.dst.toNat) b).2≠0 then .err (qM t.code (M.regs t.dst.toNat) b).2
    else .go { M with regs:=upd M.regs t.dst.toNat (qM t.code (M.regs t.dst.toNat) b).1} (pc+1)
def dM.run(S:Nat→Step)(told:Nat→Int)(time:Int):Nat→dM→Int→Int→(Int × Int) ⊕ (dM × Int × Int)
  |0,_,pc,_=>.inl (0,pc)
  |k+1,M,pc,steps=>match M.step told time (S pc.toNat) pc with
    |.done M n=>.inr (M,n,steps)
    |.err e=>.inl (e,pc)
    |.go M next=>dM.run S told time k M next (steps+1)
end Go.Proofs.YtglilddlhibogaaGreatDoor.P
namespace Go.Proofs.YtglilddlhibogaaGreatDoor.P
def oJ(v:Val):Prop:=(v.kind=0∨v.kind=1∨v.kind=2∨v.kind=3∨v.kind=4)∧(v.kind=4→0≤v.cell∧v.cell<4)
def Ak(M:dM):Prop:=(∀ r,oJ (M.regs r))∧(∀ s,oJ (M.slots s))
theorem oJ.none:oJ Val.none:=⟨.inl rfl,fun h=>by simp[Val.none]at h⟩
theorem oJ.num(n:Int):oJ (.num n):=⟨.inr (.inl rfl),fun h=>by simp[Val.num]at h⟩
theorem oJ.upd{f:Nat→Val}(h:∀ r,oJ (f r))(i:Nat){v:Val}(hv:oJ v):∀ r,oJ (upd f i v r):=by
  exact azG
theorem Ak.load{M:dM}(h:Ak M)(told:Nat→Int)(v:Val)(o:Int):oJ (M.load told v o).1:=by
  unfold dM.load;split
  · exact oJ.none
  split
  · exact oJ.num _
  split
  · exact oJ.num _
  split
  · exact oJ.none
  · exact h.2 _
theorem Ak.second{M:dM}(h:Ak M)(t:Step):oJ (M.second t):=by
  unfold dM.second;split
  · exact h.1 _
  · exact oJ.num _
theorem Ak.store{M:dM}(h:Ak M)(v:Val)(o:Int){x:Val}(hx:oJ x):Ak (M.store v o x).1:=by
  unfold dM.store;repeat' split
  all_goals first|exact h|exact⟨h.1,oJ.upd h.2 _ hx⟩|exact⟨h.1,h.2⟩
theorem Ak.call{M:dM}(h:Ak M)(time n:Int):Ak (M.call time n).1:=by
  unfold dM.call;split
  · exact h
  split
  · exact h
  refine⟨fun r=>?_,h.2⟩;simp only;split
  · split
    · split
      · rename_i hx;exact⟨by simp,fun _=>hx⟩
      · exact oJ.num _
    · split<;>exact oJ.num _
  split
  · exact oJ.none
  · exact h.1 r
theorem oJ.counts{a b:Val}(ha:oJ a)(hb:oJ b)(c:Int):oJ (qM c a b).1:=by
  unfold qM;split
  · exact oJ.none
  split
  · exact hb
  split
  · exact oJ.num _
  split
  · exact hb
  split
  · exact oJ.none
  · exact ha
theorem Ak.agw{M:dM}(h:Ak M)(r:Nat){v:Val}(hv:oJ v):Ak { M with regs:=upd M.regs r v}:=⟨oJ.upd h.1 _ hv,h.2⟩
def dM.init(cells:Nat→Int):dM:=⟨fun r=>if r=1 then⟨2,0,0⟩else if r=10 then⟨3,0,0⟩else .none,fun _=>.none,cells,[]⟩
theorem Ak.init(cells:Nat→Int):Ak (dM.init cells):=by
  refine⟨fun r=>?_,fun s=>oJ.none⟩;unfold dM.init;simp only;split
  · exact⟨by simp,by simp⟩
  split
  · exact⟨by simp,by simp⟩
  · exact oJ.none
theorem aoI{S:Nat→Step}{n:Nat}:∀ (k i:Nat),i+k=n→(from_ S n i k).1=0→∀ j,i≤j→j<n→at_ S n j=0
  |0,i,hk,_,j,h1,h2=>by omega
  |k+1,i,hk,h,j,h1,h2=>by
    unfold from_ at h;by_cases ha:at_ S n i=0
    · rw[dw (by simp[ha])]at h;by_cases e:j=i
      · subst e;exact ha
      · exact aoI k (i+1) bQ h j bQ h2
    · rw[dB ha]at h;exact absurd h ha
theorem aoH{S:Nat→Step}{n j:Nat}(h:at_ S n j=0):(S j).wrong=0∧((S j).leads→0≤(S j).off∧(S j).off<(n:Int)-1-j)∧(j+1=n→(S j).code=28):=by
  unfold at_ at h;by_cases h1:(S j).wrong=0
  · rw[dw AO]at h;by_cases h2:(S j).leads∧((S j).off<0∨(S j).off≥(n:Int)-1-j)
    · rw[dB h2]at h;simp at h
    · rw[dw h2]at h;refine⟨h1,fun hl=>?_,fun hj=>?_⟩
      · by_cases h3:0≤(S j).off∧(S j).off<(n:Int)-1-j
        · exact h3
        · exact absurd ⟨hl,by omega⟩ h2
      · by_cases h4:(S j).code=28
        · exact h4
        · rw[dB ⟨hj,h4⟩]at h;simp at h
  · rw[dB h1]at h;exact absurd h h1
theorem aeh{t:Step}(h:t.wrong=0):(1≤t.code∧t.code≤28)∧(0≤t.dst∧t.dst≤10∧0≤t.src∧t.src≤10)∧((t.code≤13∨t.code=25)→t.dst≠10)∧¬bad t.code t.dst t.src t.reg t.off t.num:=by
  unfold Step.wrong wrong at h;by_cases h1:t.code<1∨28<t.code
  · rw[dB h1]at h;simp at h
  rw[dw h1]at h;by_cases h2:t.dst<0∨10<t.dst∨t.src<0∨10<t.src
  · rw[dB h2]at h;simp at h
  rw[dw h2]at h;by_cases h3:(t.code≤13∨t.code=25)∧t.dst=10
  · rw[dB h3]at h;simp at h
  rw[dw h3]at h;by_cases h4:bad t.code t.dst t.src t.reg t.off t.num
  · rw[dB h4]at h;simp at h
  exact⟨by omega,by omega,by omega,h4⟩
end Go.Proofs.YtglilddlhibogaaGreatDoor.P
namespace Go.Proofs.YtglilddlhibogaaGreatDoor.W
open Go.RowKit Go.Sort
section
variable{P:Program}{ops:Array Oper}{md:Region.Mode}{C:World→Prop}
def aoh(P:Program)(md:Region.Mode)(ops:Array Oper)(C:World→Prop)(n:Nat)(L:Array Bool→Act→Prop):Nat→Array Bool→Act→Prop
 |0,listed,a=>L listed a
 |f+1,listed,a =>
  Region.ready md ops listed≠[]∧∀ i∈Region.ready md ops listed,i<n∧qOp P ops C i (aoh P md ops C n L f (listed.setIfInBounds i true)) a
theorem aDY{n g:Nat}{L:Array Bool→Act→Prop}{Q':Exit→Act→World→Prop}(hL:∀ listed a,L listed a→∀ w,C w→wpAny P md ops Q' g listed a w) :
  ∀ (f:Nat) (listed:Array Bool) (a:Act) (w:World),C w→aoh P md ops C n L f listed a→wpAny P md ops Q' (f+g) listed a w
 |0,listed,a,w,hw,h=>by rw[Nat.zero_add];exact hL _ _ h w hw
 |f+1,listed,a,w,hw,h=>by
  rw[show f+1+g=(f+g)+1 by omega];exact⟨fun h0=>absurd h0 h.1,fun i hi=>wpOp_of_qOp hw (fun a' w' hw' h'=>aDY hL f _ a' w' hw' h') (h.2 i hi).2⟩
theorem aMo{n i:Nat}{oi:Oper}{v:Value}{L:Array Bool→Act→Prop}(hi:ops[i]?=some oi)(hsel:∀ (j:Nat) (o:Oper) cs b,ops[j]?=some o→o.op≠.select cs b)
  (hs:Region.sinkB md ops n=true) (hc:Region.chainB md ops n=true) (hn:n<ops.size) (hin:i<n)
  (hdone:∀ listed a,L listed a→∀ j∈Region.ready md ops listed,n≤j) :
  ∀ (f:Nat) (listed:Array Bool) (a:Act),HeadInv md ops n listed →
   (∀ j oj,ops[j]?=some oj→j≠i→listed.getD j true=false→(∀ e∈oj.after,Region.binds md e=true→e.on≠i)→oi.apart ops oj=true) →
   i∈Region.ready md ops listed→YieldsIn P ops C oi v a →
   aoh P md ops C n L f (listed.setIfInBounds i true) (a.put oi.dst v)→aoh P md ops C n L (f+1) listed a:=by
 intro f;induction f with
 |zero =>
  intro listed a inv _ hr hy H;have hun:=(mem_ready.1 hr).1;refine⟨fun h=>anB,fun j hj=>?_⟩;have hjn:j<n:=by
   exact apU
  refine⟨hjn,?_⟩;by_cases hji:j=i
  ·subst hji;exact hy.qOp hi H
  ·have:=hdone _ _ H j (ready_mono hj hji);omega
 |succ f ih =>
  intro listed a inv hfree hr hy H;have hun:=(mem_ready.1 hr).1;refine⟨fun h=>anB,fun j hj=>?_⟩;have hjn:j<n:=by
   exact apU
  refine⟨hjn,?_⟩;by_cases hji:j=i
  ·subst hji;exact hy.qOp hi H
  ·have h1:=(H.2 j (ready_mono hj hji)).2;obtain⟨hjun,oj,hoj,hall⟩:=mem_ready.1 hj;have hnot:∀ e∈oj.after,Region.binds md e=true→e.on≠i:=fun e he hb heq=>by
    exact auF
   have h2:=qOp_put hoj (hfree j oj hoj hji hjun hnot) (fun cs b=>hsel i oi cs b hi) (fun cs b=>hsel j oj cs b hoj) hy h1;refine aA7 ?_;intro hfree';refine qOp_mono (fun a' h3=>ih (listed.setIfInBounds j true) a' (inv.set hj hjn) hfree' (ready_mono hr (Ne.symm hji)) h3.1 ?_) h2;exact auQ
theorem aDZ{n g:Nat}{Lq:Act→Prop}(hsel:Region.noSelect ops=true)(hs:Region.sinkB md ops n=true)(hc:Region.chainB md ops n=true)(hn:n<ops.size) :
  ∀ (l:List Oper) (k:Nat) (listed:Array Bool) (a:Act),(∀ j,j<l.length→l[j]?=ops[k+j]?)→k+l.length=n→HeadInv md ops n listed →
  Region.lexHead md ops g l.length k listed=true→wpQuiet P ops C Lq l a →
  aoh P md ops C n (fun listed' a'=>Region.seqB md ops g n listed'=true∧Lq a') l.length listed a
 |[],k,listed,a,_,hk,_,hB,h=>by
  have:k=n:=by simpa using hk
  subst this;exact⟨by simpa[Region.lexHead]using hB,h⟩
 |o::l,k,listed,a,hl,hk,inv,hB,h=>by
  have h0:ops[k]?=some o:=au0;simp only[List.length_cons,Region.lexHead,Bool.and_eq_true]at hB;obtain⟨⟨hr,hf⟩,hB'⟩:=hB;have hkn:k<n:=aqb;have hr':k∈Region.ready md ops listed:=amF;have hst:qOp P ops C k (wpQuiet P ops C Lq l) a:=asU;obtain⟨v,hy,hK⟩:=yieldsIn_of_qOp h0 hst;exact aMo h0 (Region.noSelect_spec hsel) hs hc hn hkn (fun listed' a' hL=>seqB_ready hL.1) l.length listed a inv (Region.free_spec h0 hf) hr' hy
   (aDZ hsel hs hc hn l (k+1) _ _ (fun j hj=>by have:=hl (j+1) eU;simpa[Nat.add_assoc,Nat.add_comm 1 j]using this) aqb (inv.set hr' hkn) hB' hK)
theorem aMp{id:Nat}{Q:Exit→Act→World→Prop}{a:Act}{w:World}{l:List Oper}(n:Nat)(hm:P.follows .mixedOrders=true)(hB:Region.lexTailB .any l.toArray n=true)(hC:C { w with drawn:=w.drawn+1})
  (h:wpQuiet P l.toArray C (fun a'=>∀ w',C w'→wpList P l.toArray Q (l.drop n) a' w') (l.take n) a):(Code.region id l.toArray true).wp P Q a w:=by
 simp only[Region.lexTailB,Bool.and_eq_true,decide_eq_true_eq]at hB;obtain⟨⟨⟨⟨hsel,hn⟩,hs⟩,hc⟩,hlex⟩:=hB;refine aBp ?_;intro hn' htl hdl inv0;have H:=aDZ (C:=C) (md:=.any) (g:=l.toArray.size-n) hsel hs hc hn (l.take n) 0 _ a (fun j hj=>by
  have hj':j<n:=by rw[htl]at hj;exact hj
  simp[hj']) (by simpa using htl) inv0 (by rw[htl];exact hlex) h
 refine wp_region_any hm ?_;have:=aDY (C:=C) (Q':=Q) (g:=l.toArray.size-n) (fun listed a' hL w' hw'=>by
  have:=wpAny_of_seq (md:=.any) (Q':=Q) (l.drop n) n listed a' w' (fun j=>by simp[List.getElem?_drop]) (by rw[hdl];exact hL.1) (hL.2 w' hw')
  rwa [hdl]at this) _ _ _ _ hC H
 exact aBF
theorem OD{id:Nat}{Q:Exit→Act→World→Prop}{a:Act}{w:World}{l:List Oper}(n:Nat)(hm:P.follows .mixedOrders=true)(hB:Region.lexTailB .any l.toArray n=true)
  (h:wpQuiet P l.toArray (fun w'=>∃ p:Regrown,w'=grow (redrawn w p.d) p.os) (fun a'=>∀ w',(∃ p:Regrown,w'=grow (redrawn w p.d) p.os)→wpList P l.toArray Q (l.drop n) a' w') (l.take n) a):(Code.region id l.toArray true).wp P Q a w :=
 aMp (C:=fun w'=>∃ p:Regrown,w'=grow (redrawn w p.d) p.os) n hm hB ⟨⟨w.drawn+1,#[]⟩,by rw[grow_empty];rfl⟩ h
end
section
variable{P:Program}{ops:Array Oper}{md:Region.Mode}{C:World→Prop}{Q':Exit→Act→World→Prop}
def needs(md:Region.Mode)(ops:Array Oper):Nat→Nat→Nat→Bool
 |0,_,_=>false
 |f+1,j,i=>match ops[j]? with
  |some oj=>oj.after.any (fun e=>Region.binds md e&&e.on==i)||oj.after.any (fun e=>Region.binds md e&&needs md ops f e.on i)
  |none=>false
def Closed(md:Region.Mode)(ops:Array Oper)(listed:Array Bool):Prop :=
 ∀ j oj,ops[j]?=some oj→listed.getD j false=true→∀ e∈oj.after,Region.binds md e=true→listed.getD e.on false=true
theorem Closed.set{i:Nat}{listed:Array Bool}(h:Closed md ops listed)(hi:i∈Region.ready md ops listed):Closed md ops (listed.setIfInBounds i true):=by
 obtain⟨_,oi,hoi,hall⟩:=mem_ready.1 hi;intro j oj hj hl e he hb;by_cases hij:i=j
 ·subst hij;have:oj=oi:=Option.some.inj (hj.symm.trans hoi);subst this;exact getD_set_true (hall e he hb)
 ·rw[getD_set_ne false hij]at hl;exact getD_set_true (h j oj hj hl e he hb)
theorem aD0{listed:Array Bool}(hc:Closed md ops listed):∀ (f j i:Nat),needs md ops f j i=true→(∀ oj,ops[j]?=some oj→∀ e∈oj.after,Region.binds md e=true→listed.getD e.on false=true)→listed.getD i false=true
 |0,_,_,h,_=>by cases h
 |f+1,j,i,h,hd=>by
  unfold needs at h;split at h
  ·rename_i oj hj;rw[Bool.or_eq_true]at h;rcases h with h|h
   ·obtain⟨e,he,hb⟩:=Array.any_eq_true'.1 h;rw[Bool.and_eq_true,beq_iff_eq]at hb;rw[←hb.2];exact hd oj hj e he hb.1
   ·obtain⟨e,he,hb⟩:=Array.any_eq_true'.1 h;rw[Bool.and_eq_true]at hb;have hl:=hd oj hj e he hb.1;exact aD0 hc f e.on i hb.2 (fun o' ho' e' he' hb'=>hc e.on o' ho' hl e' he' hb')
  ·cases h
def ag7(ops:Array Oper)(i:Nat):Bool:=match ops[i]? with
 |some o=>(match o.op with|.assign _=>o.guard.isNone|.move _=>o.guard.isNone|.extract _ _=>o.guard.isNone|_=>false)
 |none=>false
theorem aMq(x:Value)(ix:Nat){w0 w0':World}{v:Value}(h:(Instr.extract x ix).run P w0=.ok v w0')(w:World):(Instr.extract x ix).run P w=.ok v w:=by
 unfold Instr.extract at *;split at h
 ·split at h
  ·rename_i u hu;simp only[hu,Sem.run_pure,Result.ok.injEq]at h ⊢;exact⟨h.1,trivial⟩
  ·cases h
 ·cases h
theorem aMr{i:Nat}{o:Oper}{v:Value}{a:Act}{w:World}(hi:ops[i]?=some o)(h:ag7 ops i=true)(hy:YieldsIn P ops C o v a)(hw:C w):Yields P ops o v a:=by
 unfold ag7 at h;simp only[hi]at h;rcases hy with ⟨h1,h2⟩|⟨h1,h2⟩
 ·have h3:=h2 w hw;refine .inl ⟨h1,fun w'=>?_⟩;unfold Oper.quietAt execOp at h3;unfold execOp;split at h
  ·exact aBx
  ·exact aBx
  ·rename_i x ix ho;rw[ho]at h3 ⊢;simp only[Sem.run_bind,Sem.run_pure]at h3 ⊢;cases hr:(Instr.extract (a.eval x) ix).run P w with
   |ok u w'' =>
    rw[hr]at h3;simp only[Result.andThen_ok,Oper.quietUpon]at h3;rw[aMq _ _ hr w',Result.andThen_ok,h3.2]
   |halt u w'' =>
    rw[hr]at h3;exact h3.elim
  ·cases h
 ·exact .inr ⟨h1,h2⟩
def acS(P:Program)(md:Region.Mode)(ops:Array Oper)(C:World→Prop)(Q':Exit→Act→World→Prop)(k:Nat):Nat→Array Bool→Act→Prop
 |0,_,_=>False
 |f+1,listed,a=>Region.ready md ops listed≠[]∧∀ i∈Region.ready md ops listed,
   (i=k→∀ w,C w→wpOp P ops Q' k (wpAny P md ops Q' f (listed.setIfInBounds k true)) a w)∧(i≠k→qOp P ops C i (acS P md ops C Q' k f (listed.setIfInBounds i true)) a)
theorem asV{k:Nat}:∀ (f:Nat) (listed:Array Bool) (a:Act) (w:World),C w→acS P md ops C Q' k f listed a→wpAny P md ops Q' f listed a w
 |0,_,_,_,_,h=>h.elim
 |f+1,listed,a,w,hw,h=>⟨fun h0=>absurd h0 h.1,fun i hi=>by
   by_cases e:i=k
   ·subst e;exact(h.2 _ hi).1 rfl w hw
   ·exact wpOp_of_qOp hw (fun a' w' hw' h'=>asV f _ a' w' hw' h') ((h.2 i hi).2 e)⟩
theorem ayu{k i:Nat}{oi:Oper}{v:Value}(hi:ops[i]?=some oi)(hsel:∀ (j:Nat) (o:Oper) cs b,ops[j]?=some o→o.op≠.select cs b)
  (hQ:∀ c a w,Q' (.panic c) (a.put oi.dst v) w→Q' (.panic c) a w) (hik:i≠k) (aMs:ag7 ops i=true∨needs md ops 3 k i=true) :
  ∀ (f:Nat) (listed:Array Bool) (a:Act),Closed md ops listed →
   (∀ j oj,ops[j]?=some oj→j≠i→listed.getD j true=false→(∀ e∈oj.after,Region.binds md e=true→e.on≠i)→oi.apart ops oj=true) →
   i∈Region.ready md ops listed→YieldsIn P ops C oi v a →
   acS P md ops C Q' k f (listed.setIfInBounds i true) (a.put oi.dst v)→acS P md ops C Q' k (f+1) listed a:=by
 intro f;induction f with
 |zero=>intro listed a _ _ _ _ H;exact H.elim
 |succ f ih =>
  intro listed a hcl hfree hr hy H;have hun:=(mem_ready.1 hr).1;refine⟨fun h=>anB,fun j hj=>?_⟩;have hnot:∀ oj,ops[j]?=some oj→j∈Region.ready md ops listed→∀ e∈oj.after,Region.binds md e=true→e.on≠i:=fun oj hoj hj e he hb heq=>by
   obtain⟨_,o',ho',hall⟩:=mem_ready.1 hj;have:o'=oj:=Option.some.inj (ho'.symm.trans hoj);subst this;exact auF
  have hfree':∀ j,∀ k ok,ops[k]?=some ok→k≠i→(listed.setIfInBounds j true).getD k true=false →
    (∀ e∈ok.after,Region.binds md e=true→e.on≠i)→oi.apart ops ok=true:=fun j k ok hk hki hun hno=>by
   refine hfree k ok hk hki ?_ hno;by_cases hjk:j=k
   ·subst hjk;rcases Nat.lt_or_ge j listed.size with h'|h'
    ·simp[h']at hun
    ·rw[Array.setIfInBounds_eq_of_size_le h']at hun;exact hun
   ·rw[getD_set_ne true hjk]at hun;exact hun
  constructor
  ·intro e w hw;subst e;have h1:=(H.2 j (ready_mono hj (Ne.symm hik))).1 rfl w hw;obtain⟨hjun,oj,hoj,hall⟩:=mem_ready.1 hj;have aMt:ag7 ops i=true:=by
    rcases aMs with h|h
    ·exact h
    ·have:=aD0 hcl 3 j i h (fun o' ho' e he hb=>by
      have:o'=oj:=Option.some.inj (ho'.symm.trans hoj)
      subst this
      exact hall e he hb)
     rw[getD_both hun]at this;cases this
   have hY:=aMr hi aMt hy hw;have h2:=wpOp_put hoj (hfree j oj hoj (Ne.symm hik) hjun (hnot oj hoj hj)) (fun cs b=>hsel i oi cs b hi) (fun cs b=>hsel j oj cs b hoj) hQ hY h1;refine wpOp_mono (fun a' w' h3=>wpAny_first hi hsel hQ f (listed.setIfInBounds j true) a' w' (hfree' j) (ready_mono hr hik) h3.1 ?_) h2;rw[Array.setIfInBounds_comm _ _ (Ne.symm hik)];exact h3.2
  ·intro hjk;by_cases hji:j=i
   ·subst hji;exact hy.qOp hi H
   ·have h1:=(H.2 j (ready_mono hj hji)).2 hjk;obtain⟨hjun,oj,hoj,hall⟩:=mem_ready.1 hj;have h2:=qOp_put hoj (hfree j oj hoj hji hjun (hnot oj hoj hj)) (fun cs b=>hsel i oi cs b hi) (fun cs b=>hsel j oj cs b hoj) hy h1;refine qOp_mono (fun a' h3=>ih (listed.setIfInBounds j true) a' (hcl.set hj) (hfree' j) (ready_mono hr (Ne.symm hji)) h3.1 ?_) h2;exact auQ
def akO(md:Region.Mode)(ops:Array Oper)(k:Nat):Nat→Nat→Array Bool→Bool
 |0,i,listed=>i==k&&Region.seqB md ops (ops.size-k) k listed
 |f+1,i,listed=>i !=k&&(Region.ready md ops listed).contains i&&Region.free md ops listed i&&(ag7 ops i||needs md ops 3 k i)&&akO md ops k f (i+1) (listed.setIfInBounds i true)
theorem aD1{k:Nat}{Lq:Act→Prop}(hsel:Region.noSelect ops=true)(hQ:∀ c a w d v,Q' (.panic c) (a.put d v) w→Q' (.panic c) a w)
  (hfin:∀ listed a,Region.seqB md ops (ops.size-k) k listed=true→Lq a→acS P md ops C Q' k (ops.size-k) listed a) :
  ∀ (l:List Oper) (i:Nat) (listed:Array Bool) (a:Act),(∀ j,j<l.length→l[j]?=ops[i+j]?)→Closed md ops listed→akO md ops k l.length i listed=true→wpQuiet P ops C Lq l a→acS P md ops C Q' k (l.length+(ops.size-k)) listed a
 |[],i,listed,a,_,_,hB,h=>by
  simp only[List.length_nil,akO,Bool.and_eq_true,beq_iff_eq]at hB;rw[List.length_nil,Nat.zero_add];exact hfin listed a hB.2 h
 |o::l,i,listed,a,hl,hcl,hB,h=>by
  have h0:ops[i]?=some o:=au0;simp only[List.length_cons,akO,Bool.and_eq_true,Bool.or_eq_true,bne_iff_ne,ne_eq]at hB;obtain⟨⟨⟨⟨hik,hr⟩,hf⟩,hw⟩,hB'⟩:=hB;have hr':i∈Region.ready md ops listed:=amF;have hst:qOp P ops C i (wpQuiet P ops C Lq l) a:=asU;obtain⟨v,hy,hK⟩:=yieldsIn_of_qOp h0 hst;rw[show(o::l).length+(ops.size-k)=(l.length+(ops.size-k))+1 by simp only[List.length_cons];omega];exact ayu h0 (Region.noSelect_spec hsel) (fun c a w=>hQ c a w _ _) hik hw _ listed a hcl (Region.free_spec h0 hf) hr' hy
   (aD1 hsel hQ hfin l (i+1) _ _ (fun j hj=>by have:=hl (j+1) eU;simpa[Nat.add_assoc,Nat.add_comm 1 j]using this) (hcl.set hr') hB' hK)
theorem aMu{id:Nat}{a:Act}{w:World}{l:List Oper}(k:Nat)(hm:P.follows .mixedOrders=true)
  (hB:(Region.noSelect l.toArray&&decide (k<l.length)&&akO .any l.toArray k k 0 (Array.replicate l.length false))=true)
  (hQ:∀ c a w d v,Q' (.panic c) (a.put d v) w→Q' (.panic c) a w) (hC:C { w with drawn:=w.drawn+1})
  (h:wpQuiet P l.toArray C (fun a'=>∀ w',C w'→wpList P l.toArray Q' (l.drop k) a' w') (l.take k) a):(Code.region id l.toArray true).wp P Q' a w:=by
 simp only[Bool.and_eq_true,decide_eq_true_eq]at hB;obtain⟨⟨hsel,hk⟩,hlex⟩:=hB;have htl:(l.take k).length=k:=eU;have hdl:(l.drop k).length=l.toArray.size-k:=dY;refine wp_region_any hm ?_;have H:=aD1 (P:=P) (C:=C) (Q':=Q') (md:=.any) (ops:=l.toArray) (k:=k) hsel hQ (fun listed a' hs hL=>by
  obtain⟨g,hg⟩:∃ g,l.toArray.size-k=g+1:=⟨l.toArray.size-k-1,by simp;omega⟩
  rw[hg]at hs ⊢
  have hs':=hs
  simp only[Region.seqB,Bool.and_eq_true,decide_eq_true_eq]at hs'
  refine⟨by rw[hs'.1];simp,fun i hi=>?_⟩
  rw[hs'.1]at hi
  have hik:i=k:=amD
  subst hik
  refine⟨fun _ w' hw'=>?_,fun hne=>absurd rfl hne⟩
  have:=wpAny_of_seq (md:=.any) (Q':=Q') (l.drop i) i listed a' w' (fun j=>by simp[List.getElem?_drop]) (by rw[hdl,hg];exact hs) (hL w' hw')
  rw[hdl,hg]at this
  exact this.2 i (by rw[hs'.1];simp)) (l.take k) 0 (Array.replicate l.length false) a (fun j hj=>by
   rw[htl]at hj
   simp[hj]) (fun j oj _ hl=>by rw[getD_replicate_false]at hl;cases hl) (by rw[htl];exact hlex) h
 have:=asV _ _ _ _ hC H;rw[htl,show k+(l.toArray.size-k)=l.toArray.size by simp;omega]at this;simpa using this
theorem YC{id:Nat}{a:Act}{w:World}{l:List Oper}(k:Nat)(hm:P.follows .mixedOrders=true)
  (hB:(Region.noSelect l.toArray&&decide (k<l.length)&&akO .any l.toArray k k 0 (Array.replicate l.length false))=true)
  (h:wpQuiet P l.toArray (fun w'=>∃ p:Regrown,w'=grow (redrawn w p.d) p.os) (fun a'=>∀ w',(∃ p:Regrown,w'=grow (redrawn w p.d) p.os)→wpList P l.toArray (NoPanic Q') (l.drop k) a' w') (l.take k) a):(Code.region id l.toArray true).wp P Q' a w :=
 wp_region_noPanic (aMu (C:=fun w'=>∃ p:Regrown,w'=grow (redrawn w p.d) p.os) k hm hB (fun _ _ _ _ _ h=>h) ⟨⟨w.drawn+1,#[]⟩,by rw[grow_empty];rfl⟩ h)
end
end Go.Proofs.YtglilddlhibogaaGreatDoor.W
namespace Go.Proofs.YtglilddlhibogaaGreatDoor.W
open Go.RowKit Go.Sort
theorem asl{P:Program}{ops:Array Oper}{C:World→Prop}{Q:Act→Prop}{a:Act}{o:Oper}{rest:List Oper}(hgd:o.guard=none)(ty:TypeId)(x:Operand)(ho:o.op=.load ty x)(p:Addr)
  (hx:a.eval x=.pointer (some p)) (v:Value) (hl:∀ w,C w→(Instr.loadAt ty (.pointer (some p))).run P w=.ok v w) (h:wpQuiet P ops C Q rest (a.put o.dst v)):wpQuiet P ops C Q (o::rest) a:=by
 have hw:Region.wanted o (yielded ops a.tmps)=true:=asQ;unfold wpQuiet;rw[dB hw];refine⟨v,fun w hw=>?_,h⟩;unfold Oper.quietAt execOp;simp only[ho,hx,Sem.run_bind,hl w hw,Result.andThen_ok,Sem.run_pure,Oper.quietUpon];first|exact⟨rfl,rfl⟩|trivial|simp
theorem aGU{P:Program}{ops:Array Oper}{C:World→Prop}{Q:Act→Prop}{a:Act}{o:Oper}{rest:List Oper}(hgd:o.guard=none)(ty:TypeId)(parts:Array (Nat × Operand))(ho:o.op=.build ty parts)
  (vals:Array (Nat × Value)) (hx:parts.map (fun(i,x)=>(i,a.eval x))=vals) (cells:Array Value) (hb:P.built ty vals.toList=some cells) (h:wpQuiet P ops C Q rest (a.put o.dst (.agg cells))):wpQuiet P ops C Q (o::rest) a:=by
 have hw:Region.wanted o (yielded ops a.tmps)=true:=asQ;unfold wpQuiet;rw[dB hw];refine⟨.agg cells,fun w hw=>?_,h⟩;unfold Oper.quietAt execOp;simp only[ho,hx,Sem.run_bind,run_build w ty vals cells hb,Result.andThen_ok,Sem.run_pure,Oper.quietUpon];first|exact⟨rfl,rfl⟩|trivial|simp
theorem wpList_build{P:Program}{ops:Array Oper}{Q:Exit→Act→World→Prop}{a:Act}{w:World}{o:Oper}{rest:List Oper}(hgd:o.guard=none)(ty:TypeId)(parts:Array (Nat × Operand))(ho:o.op=.build ty parts)
  (vals:Array (Nat × Value)) (hx:parts.map (fun(i,x)=>(i,a.eval x))=vals) (cells:Array Value) (hb:P.built ty vals.toList=some cells) (h:wpList P ops Q rest (a.put o.dst (.agg cells)) w):wpList P ops Q (o::rest) a w :=
 wpList_plain hgd fun _ hK=>by
  unfold Oper.wp execOp;simp only[ho,hx,Sem.run_bind,run_build w ty vals cells hb,Result.andThen_ok,Sem.run_pure];exact hK _ _ h
theorem results_cell_tmp{P:Program}{w:World}{fn:Func}{tmps:Array Value}{a t:Nat}{ty:TypeId}(hr:fn.results=#[.cell a ty,.tmp t]){p:Addr}(ha:tmps.getD a undef=.pointer (some p)){u:Value}(ht:tmps.getD t undef=u){v:Value}
  (hl:(loadVar ty p).run P w=.ok v w):(results fn tmps).run P w=.ok (.tuple #[v,u]) w:=by
 rw[Array.getD_eq_getD_getElem?]at ha ht;unfold results;rw[hr];simp[asAddr,ha,hl,ht,Sem.run_bind,Sem.run_pure]
theorem asj{P:Program}{w:World}{fn:Func}{tmps:Array Value}{a t:Nat}{ty ty':TypeId}(hr:fn.results=#[.cell a ty,.cell t ty']){p q:Addr}(ha:tmps.getD a undef=.pointer (some p))(ht:tmps.getD t undef=.pointer (some q)){v u:Value}
  (hl:(loadVar ty p).run P w=.ok v w) (hl':(loadVar ty' q).run P w=.ok u w):(results fn tmps).run P w=.ok (.tuple #[v,u]) w:=by
 rw[Array.getD_eq_getD_getElem?]at ha ht;unfold results;rw[hr];simp[asAddr,ha,hl,ht,hl',Sem.run_bind,Sem.run_pure]
def XH(w w':World):Prop:=Below w.heap.size w w'
theorem aDj{wd w w':World}(h:∃ p:Regrown,w=grow (redrawn wd p.d) p.os)(h':XH w w'):∃ p:Regrown,w'=grow (redrawn wd p.d) p.os:=by
 obtain⟨p,rfl⟩:=h;have hb:=below_regrown wd p.d p.os;exact regrown_of_below (hb.trans (h'.mono hb.size))
theorem grown_below{wd w:World}(h:∃ p:Regrown,w=grow (redrawn wd p.d) p.os):Below wd.heap.size wd w:=by
 obtain⟨p,rfl⟩:=h;exact below_regrown _ _ _
def BH(o:Oper):Bool:=match o.op with|.alloc _=>o.guard.isNone|_=>false
def Z4(o:Oper):TypeId:=match o.op with|.alloc t=>t|_=>0
theorem aDk{o:Oper}(h:BH o=true):o.op=.alloc (Z4 o)∧o.guard=none:=by
 unfold BH at h;unfold Z4;split at h
 ·rename_i t ht;rw[ht];exact⟨rfl,by simpa using h⟩
 ·cases h
theorem aDl:∀ (M:List (Nat × Nat)),(M.map (·.1)).Nodup→∀ x∈M,∀ y∈M,x.1=y.1→x=y
 |[],_,x,hx,_,_,_=>by simp at hx
 |z::M,h,x,hx,y,hy,e=>by
  simp only[List.map_cons,List.nodup_cons]at h;rcases List.mem_cons.1 hx with rfl|hx1<;>rcases List.mem_cons.1 hy with rfl|hy1
  ·rfl
  ·exact(h.1 (List.mem_map.2 ⟨y,hy1,e.symm⟩)).elim
  ·exact(h.1 (List.mem_map.2 ⟨x,hx1,e⟩)).elim
  ·exact aDl M h.2 x hx1 y hy1 e
theorem aDm:∀ (M:List (Nat × Nat)),(M.map (·.2)).Nodup→∀ x∈M,∀ y∈M,x.2=y.2→x=y
 |[],_,x,hx,_,_,_=>by simp at hx
 |z::M,h,x,hx,y,hy,e=>by
  simp only[List.map_cons,List.nodup_cons]at h;rcases List.mem_cons.1 hx with rfl|hx1<;>rcases List.mem_cons.1 hy with rfl|hy1
  ·rfl
  ·exact(h.1 (List.mem_map.2 ⟨y,hy1,e.symm⟩)).elim
  ·exact(h.1 (List.mem_map.2 ⟨x,hx1,e⟩)).elim
  ·exact aDm M h.2 x hx1 y hy1 e
section
variable{P:Program}{ops:Array Oper}{md:Region.Mode}{wd:World}
def calm(P:Program)(wd:World)(o:Oper)(a:Act)(next:Act→Prop):Prop :=
 ∃ v,(∀ w0,(∃ p:Regrown,w0=grow (redrawn wd p.d) p.os)→o.quietAt P a (XH w0) w0 v)∧next (a.put o.dst v)
theorem aDn{o:Oper}{a:Act}{K K':Act→Prop}(h:∀ a,K a→K' a)(hh:calm P wd o a K):calm P wd o a K' :=
 let ⟨v,h1,h2⟩:=hh
 ⟨v,h1,h _ h2⟩
def KW(P:Program)(ops:Array Oper)(wd:World)(Q:Act→Prop):List Oper→Act→Prop
 |[],a=>Q a
 |o::rest,a=>if BH o then KW P ops wd Q rest a else if Region.wanted o (yielded ops a.tmps)then calm P wd o a (KW P ops wd Q rest)else KW P ops wd Q rest (a.put o.dst undef)
theorem as1{Q:Act→Prop}{a:Act}(h:Q a):KW P ops wd Q [] a:=h
theorem asY{Q:Act→Prop}{a:Act}{o:Oper}{rest:List Oper}(ho:BH o=true)(h:KW P ops wd Q rest a):KW P ops wd Q (o::rest) a:=by
 unfold KW;rw[dB ho];exact h
theorem asZ{Q:Act→Prop}{a:Act}{o:Oper}{rest:List Oper}(ho:BH o=false)
  (h:∀ K:Act→Prop,(∀ a,KW P ops wd Q rest a→K a)→if Region.wanted o (yielded ops a.tmps)then(∃ v,(∀ w0,(∃ p:Regrown,w0=grow (redrawn wd p.d) p.os)→o.quietAt P a (XH w0) w0 v)∧K (a.put o.dst v))else K (a.put o.dst undef)):KW P ops wd Q (o::rest) a:=by
 unfold KW;rw[dw (by simp[ho])];exact h _ (fun _ h=>h)
theorem aoa{Q Q':Act→Prop}(h:∀ a,Q a→Q' a):∀ (l:List Oper) (a:Act),KW P ops wd Q l a→KW P ops wd Q' l a
 |[],a,hh=>h a hh
 |o::rest,a,hh=>by
  unfold KW at *;split
  ·rename_i h1;rw[dB h1]at hh;exact aoa h rest a hh
  ·rename_i h1;rw[dw h1]at hh;split
   ·rename_i h2;rw[dB h2]at hh;exact aDn (fun a=>aoa h rest a) hh
   ·rename_i h2;rw[dw h2]at hh;exact aoa h rest _ hh
def acj(o:Oper):Option Tmp:=if BH o then none else o.dst
def NH(P:Program)(ops:Array Oper)(wd:World)(i:Nat)(K:Act→Prop)(a:Act):Prop :=
 match ops[i]? with
 |none=>K a
 |some o=>if BH o then K a else if Region.wanted o (yielded ops a.tmps)then calm P wd o a K else K (a.put o.dst undef)
theorem aDo{i:Nat}{a:Act}{K K':Act→Prop}(h:∀ a,K a→K' a)(hh:NH P ops wd i K a):NH P ops wd i K' a:=by
 unfold NH at *;split
 ·exact h _ (by simpa[*]using hh)
 ·rename_i o ho;simp only[ho]at hh;split
  ·rename_i hw;simp only[hw,if_true]at hh;exact h _ hh
  ·rename_i hw;simp only[hw]at hh;split
   ·rename_i hw2;simp only[hw2,if_true]at hh;exact aDn h hh
   ·rename_i hw2;simp only[hw2]at hh;exact h _ hh
def acn(P:Program)(ops:Array Oper)(wd:World)(o:Oper)(v:Value)(a:Act):Prop :=
 BH o=true∨(BH o=false∧((Region.wanted o (yielded ops a.tmps)=true∧∀ w0,(∃ p:Regrown,w0=grow (redrawn wd p.d) p.os)→o.quietAt P a (XH w0) w0 v)∨(Region.wanted o (yielded ops a.tmps)=false∧v=undef)))
theorem acn.NH{i:Nat}{o:Oper}{v:Value}{a:Act}(hi:ops[i]?=some o)(hy:acn P ops wd o v a){K:Act→Prop}(h:K (a.put (acj o) v)):NH P ops wd i K a:=by
 unfold W.NH acj at *;simp only[hi];rcases hy with ha|⟨ha,hy⟩
 ·rw[dB ha]at h ⊢;exact h
 ·rw[dw (by simp[ha])]at h ⊢;rcases hy with ⟨hw,hv⟩|⟨hw,rfl⟩
  ·simp only[hw,if_true];exact⟨v,hv,h⟩
  ·simp only[hw,Bool.false_eq_true,if_false];exact h
theorem aLE{i:Nat}{o:Oper}{a:Act}{K:Act→Prop}(hi:ops[i]?=some o)(h:NH P ops wd i K a):∃ v,acn P ops wd o v a∧K (a.put (acj o) v):=by
 unfold NH acj at *;simp only[hi]at h;by_cases ha:BH o=true
 ·rw[dB ha]at h ⊢;exact⟨undef,.inl ha,h⟩
 ·rw[dw ha]at h ⊢;by_cases hw:Region.wanted o (yielded ops a.tmps)=true
  ·rw[dB hw]at h;obtain⟨v,h1,h2⟩:=h;exact⟨v,.inr ⟨by simpa using ha,.inl ⟨hw,h1⟩⟩,h2⟩
  ·rw[dw hw]at h;exact⟨undef,.inr ⟨by simpa using ha,.inr ⟨by simpa using hw,rfl⟩⟩,h⟩
theorem aLF{j:Nat}{oi oj:Oper}{v:Value}(hj:ops[j]?=some oj)(hap:oi.apart ops oj=true)
  (hsi:∀ cs b,oi.op≠.select cs b) (hsj:∀ cs b,oj.op≠.select cs b) {K:Act→Prop} {a:Act}
  (hy:acn P ops wd oi v a) (h:NH P ops wd j K (a.put (acj oi) v)) :
  NH P ops wd j (fun a'=>acn P ops wd oi v a'∧K (a'.put (acj oi) v)) a:=by
 by_cases hia:BH oi=true
 ·have e:acj oi=none:=dB hia;rw[e]at h ⊢;exact aDo (fun a' h'=>⟨.inl hia,h'⟩) h
 have e:acj oi=oi.dst:=dw hia;rw[e]at h ⊢;obtain⟨h1,h2,h3⟩:=Oper.apart_spec hap;have keep:∀ (a:Act),acn P ops wd oi v a→∀ u,acn P ops wd oi v (a.put oj.dst u):=fun a hy u=>by
  unfold acn Oper.quietAt at *;rw[execOp_put oi hsi a oj.dst u h3,wanted_put oi a oj.dst u h3];exact hy
 unfold NH at *;simp only[hj]at *;split
 ·rename_i hja;rw[dB hja]at h;exact⟨hy,h⟩
 ·rename_i hja;rw[dw hja]at h;rw[wanted_put oj a oi.dst v h1]at h;split
  ·rename_i hw;rw[dB hw]at h;obtain⟨u,h4,h5⟩:=h;refine⟨u,fun w0 hw0=>?_,keep a hy u,by rw[←Act.put_comm a v u h2];exact h5⟩;have:=h4 w0 hw0;unfold Oper.quietAt at *;rwa [execOp_put oj hsj a oi.dst v h1]at this
  ·rename_i hw;rw[dw hw]at h;exact⟨keep a hy _,by rw[←Act.put_comm a v undef h2];exact h⟩
def aob(P:Program)(md:Region.Mode)(ops:Array Oper)(wd:World)(n:Nat)(L:Array Bool→Act→Prop):Nat→Array Bool→Act→Prop
 |0,listed,a=>L listed a
 |f+1,listed,a =>
  Region.ready md ops listed≠[]∧∀ i∈Region.ready md ops listed,i<n∧NH P ops wd i (aob P md ops wd n L f (listed.setIfInBounds i true)) a
theorem aLG{n i:Nat}{oi:Oper}{v:Value}{L:Array Bool→Act→Prop}(hi:ops[i]?=some oi)(hsel:∀ (j:Nat) (o:Oper) cs b,ops[j]?=some o→o.op≠.select cs b)
  (hs:Region.sinkB md ops n=true) (hc:Region.chainB md ops n=true) (hn:n<ops.size) (hin:i<n)
  (hdone:∀ listed a,L listed a→∀ j∈Region.ready md ops listed,n≤j) :
  ∀ (f:Nat) (listed:Array Bool) (a:Act),HeadInv md ops n listed →
   (∀ j oj,ops[j]?=some oj→j≠i→listed.getD j true=false→(∀ e∈oj.after,Region.binds md e=true→e.on≠i)→oi.apart ops oj=true) →
   i∈Region.ready md ops listed→acn P ops wd oi v a →
   aob P md ops wd n L f (listed.setIfInBounds i true) (a.put (acj oi) v)→aob P md ops wd n L (f+1) listed a:=by
 intro f;induction f with
 |zero =>
  intro listed a inv _ hr hy H;have hun:=(mem_ready.1 hr).1;refine⟨fun h=>anB,fun j hj=>?_⟩;have hjn:j<n:=by
   exact apU
  refine⟨hjn,?_⟩;by_cases hji:j=i
  ·subst hji;exact hy.NH hi H
  ·have:=hdone _ _ H j (ready_mono hj hji);omega
 |succ f ih =>
  intro listed a inv hfree hr hy H;have hun:=(mem_ready.1 hr).1;refine⟨fun h=>anB,fun j hj=>?_⟩;have hjn:j<n:=by
   exact apU
  refine⟨hjn,?_⟩;by_cases hji:j=i
  ·subst hji;exact hy.NH hi H
  ·have h1:=(H.2 j (ready_mono hj hji)).2;obtain⟨hjun,oj,hoj,hall⟩:=mem_ready.1 hj;have hnot:∀ e∈oj.after,Region.binds md e=true→e.on≠i:=fun e he hb heq=>by
    exact auF
   have h2:=aLF hoj (hfree j oj hoj hji hjun hnot) (fun cs b=>hsel i oi cs b hi) (fun cs b=>hsel j oj cs b hoj) hy h1;refine aA7 ?_;intro hfree';refine aDo (fun a' h3=>ih (listed.setIfInBounds j true) a' (inv.set hj hjn) hfree' (ready_mono hr (Ne.symm hji)) h3.1 ?_) h2;exact auQ
theorem aDp{n g:Nat}{Lq:Act→Prop}(hsel:Region.noSelect ops=true)(hs:Region.sinkB md ops n=true)(hc:Region.chainB md ops n=true)(hn:n<ops.size) :
  ∀ (l:List Oper) (k:Nat) (listed:Array Bool) (a:Act),(∀ j,j<l.length→l[j]?=ops[k+j]?)→k+l.length=n→HeadInv md ops n listed →
  Region.lexHead md ops g l.length k listed=true→KW P ops wd Lq l a→(∀ i,i<k→listed.getD i false=true) →
  aob P md ops wd n (fun listed' a'=>(Region.seqB md ops g n listed'=true∧∀ i,i<n→listed'.getD i false=true)∧Lq a') l.length listed a
 |[],k,listed,a,_,hk,_,hB,h,hl=>by
  have:k=n:=by simpa using hk
  subst this;exact⟨⟨by simpa[Region.lexHead]using hB,hl⟩,h⟩
 |o::l,k,listed,a,hl,hk,inv,hB,h,hd=>by
  have h0:ops[k]?=some o:=au0;simp only[List.length_cons,Region.lexHead,Bool.and_eq_true]at hB;obtain⟨⟨hr,hf⟩,hB'⟩:=hB;have hkn:k<n:=aqb;have hr':k∈Region.ready md ops listed:=amF;have hst:NH P ops wd k (KW P ops wd Lq l) a:=by unfold NH;simp only[h0];exact h
  obtain⟨v,hy,hK⟩:=aLE h0 hst;have hlt:k<listed.size:=by
   have h1:=(mem_ready.1 hr').1;rcases Nat.lt_or_ge k listed.size with h|h
   ·exact h
   ·simp[Array.getElem?_eq_none h]at h1
  exact aLG h0 (Region.noSelect_spec hsel) hs hc hn hkn (fun listed' a' hL=>seqB_ready hL.1.1) l.length listed a inv (Region.free_spec h0 hf) hr' hy
   (aDp hsel hs hc hn l (k + 1) _ _ (fun j hj => by have := hl (j + 1) eU; simpa [Nat.add_assoc, Nat.add_comm 1 j] using this) aqb (inv.set hr' hkn) hB' hK (fun i hi => by
    by_cases e:i=k
    ·subst e;simp[hlt]
    ·exact getD_set_true (hd i bQ)))
def QJ(ops:Array Oper)(i:Nat):Option Tmp:=(ops[i]?).bind (·.dst)
def ptrTo(m:Nat):Value:=.pointer (some ⟨m,0,none⟩)
def fill(ops:Array Oper):List (Nat × Nat)→Act→Act
 |[],a=>a
 |x::L,a=>(fill ops L a).put (QJ ops x.1) (ptrTo x.2)
def aco(ops:Array Oper)(n:Nat):Bool :=
 (List.range n).all fun i=>(List.range n).all fun j=>i==j||(match ops[i]?,ops[j]? with|some oi,some oj=>!BH oi||oi.apart ops oj|_,_=>true)
theorem aLH{n i j:Nat}{oi oj:Oper}(h:aco ops n=true)(hi:i<n)(hj:j<n)(hij:i≠j)(ei:ops[i]?=some oi)(ej:ops[j]?=some oj)(ha:BH oi=true):oi.apart ops oj=true:=by
 unfold aco at h;have h1:=List.all_eq_true.1 h i (List.mem_range.2 hi);have h2:=List.all_eq_true.1 h1 j (List.mem_range.2 hj);simp only[ei,ej,ha,Bool.not_true,Bool.false_or,Bool.or_eq_true,beq_iff_eq]at h2;rcases h2 with h2|h2
 ·exact absurd h2 hij
 ·exact h2
structure Fits(ops:Array Oper)(wd:World)(z:TypeId→Obj)(n:Nat)(listed:Array Bool)(L:List (Nat × Nat))(w:World):Prop where
 grown:∃ p:Regrown,w=grow (redrawn wd p.d) p.os
 all:∀ i o,i<n→listed.getD i false=true→ops[i]?=some o→BH o=true→i∈L.map (·.1)
 mem:∀ x∈L,x.1<n∧listed.getD x.1 false=true∧∃ o,ops[x.1]?=some o∧BH o=true∧wd.heap.size≤x.2∧w.heap[x.2]?=some (z (Z4 o))
 ni:(L.map (·.1)).Nodup
 nm:(L.map (·.2)).Nodup
theorem Fits.step{z:TypeId→Obj}{n i:Nat}{listed:Array Bool}{L:List (Nat × Nat)}{w w':World}(h:Fits ops wd z n listed L w)(hb:XH w w')(hi:∀ o,ops[i]?=some o→BH o=false):Fits ops wd z n (listed.setIfInBounds i true) L w':=by
 refine⟨aDj h.grown hb,fun j o hj hl ho ha=>?_,fun x hx=>?_,h.ni,h.nm⟩
 ·by_cases e:j=i
  ·subst e;rw[hi o ho]at ha;cases ha
  ·exact h.all j o hj (by rw[getD_set_ne false (Ne.symm e)]at hl;exact hl) ho ha
 ·obtain⟨h1,h2,o,h3,h4,h5,h6⟩:=h.mem x hx;have hm:x.2<w.heap.size:=by
   exact aBj
  exact⟨h1,getD_set_true h2,o,h3,h4,h5,(hb.block x.2 hm).trans h6⟩
theorem aDq(w:World)(o:Obj):XH w (w.alloc o):=(Below.refl _ _).alloc (Nat.le_refl _) _
theorem Fits.new{z:TypeId→Obj}{n i:Nat}{listed:Array Bool}{L:List (Nat × Nat)}{w:World}{o:Oper}(h:Fits ops wd z n listed L w)(hin:i<n)(hr:i∈Region.ready md ops listed)(ho:ops[i]?=some o)(ha:BH o=true) :
  Fits ops wd z n (listed.setIfInBounds i true) ((i,w.heap.size)::L) (w.alloc (z (Z4 o))):=by
 have hun:=getD_both (mem_ready.1 hr).1;have hlt:i<listed.size:=by
  have h1:=(mem_ready.1 hr).1;rcases Nat.lt_or_ge i listed.size with h|h
  ·exact h
  ·simp[Array.getElem?_eq_none h]at h1
 have hnew:∀ x∈L,x.1≠i:=fun x hx e=>by
  have:=(h.mem x hx).2.1;rw[e,hun]at this;cases this
 have hold:∀ x∈L,x.2<w.heap.size:=fun x hx=>by
  obtain⟨-,-,o,-,-,-,h6⟩:=h.mem x hx;exact aBj
 refine⟨aDj h.grown (aDq w _),fun j oj hj hl hoj haj=>?_,fun x hx=>?_,?_,?_⟩
 ·by_cases e:j=i
  ·subst e;simp
  ·have:=h.all j oj hj (by rw[getD_set_ne false (Ne.symm e)]at hl;exact hl) hoj haj;simp only[List.map_cons,List.mem_cons];exact .inr this
 ·rcases List.mem_cons.1 hx with rfl|hx
  ·exact⟨hin,by simp[hlt],o,ho,ha,(grown_below h.grown).size,heap_alloc_new w _⟩
  ·obtain⟨h1,h2,o',h3,h4,h5,h6⟩:=h.mem x hx;exact⟨h1,getD_set_true h2,o',h3,h4,h5,((aDq w _).block x.2 (hold x hx)).trans h6⟩
 ·simp only[List.map_cons,List.nodup_cons];refine⟨fun hm=>?_,h.ni⟩;obtain⟨x,hx,e⟩:=List.mem_map.1 hm;exact hnew x hx e
 ·simp only[List.map_cons,List.nodup_cons];refine⟨fun hm=>?_,h.nm⟩;obtain⟨x,hx,e⟩:=List.mem_map.1 hm;have:=hold x hx;omega
theorem aDr{n:Nat}(hap:aco ops n=true){i j:Nat}{oi oj:Oper}(hi:i<n)(hj:j<n)(hij:i≠j)(ei:ops[i]?=some oi)(ej:ops[j]?=some oj)(ha:BH oi=true) :
  (∀ d,QJ ops i=some d→d∉oj.looksAt ops)∧(∀ d,QJ ops i=some d→oj.dst≠some d):=by
 obtain⟨h1,h2,-⟩:=Oper.apart_spec (aLH hap hi hj hij ei ej ha);have e:QJ ops i=oi.dst:=by unfold QJ;rw[ei];rfl
 rw[e];exact⟨h1,h2⟩
theorem aDs{z:TypeId→Obj}{n j:Nat}{oj:Oper}{listed:Array Bool}{w:World}(hap:aco ops n=true)(hsj:∀ cs b,oj.op≠.select cs b)(hj:j<n)(ej:ops[j]?=some oj) :
  ∀ (L:List (Nat × Nat)) (a:Act),(∀ x∈L,x.1<n∧x.1≠j∧∃ o,ops[x.1]?=some o∧BH o=true) →
   execOp (fill ops L a).eval oj=execOp a.eval oj∧Region.wanted oj (yielded ops (fill ops L a).tmps)=Region.wanted oj (yielded ops a.tmps)∧∀ v,(fill ops L a).put oj.dst v=fill ops L (a.put oj.dst v)
 |[],a,_=>⟨rfl,rfl,fun _=>rfl⟩
 |x::L,a,h=>by
  obtain⟨h1,h2,h3⟩:=aDs (z:=z) (listed:=listed) (w:=w) hap hsj hj ej L a (fun y hy=>h y (List.mem_cons_of_mem _ hy));obtain⟨g1,g2,o,g3,g4⟩:=h x (List.mem_cons_self ..);obtain⟨s1,s2⟩:=aDr hap g1 hj g2 g3 ej g4;unfold fill;refine⟨?_,?_,fun v=>?_⟩
  ·rw[execOp_put oj hsj _ _ _ s1,h1]
  ·rw[wanted_put oj _ _ _ s1,h2]
  ·rw[Act.put_comm _ _ _ s2,h3]
theorem aLI{z:TypeId→Obj}{o:Oper}(ha:BH o=true)(hz:∀ w,(Instr.alloc (Z4 o) true (.tuple #[])).run P w=.ok (.pointer (some ⟨w.heap.size,0,none⟩)) (w.alloc (z (Z4 o))))(ρ:Operand→Value)(w:World) :
  (execOp ρ o).run P w=.ok (.value (ptrTo w.heap.size)) (w.alloc (z (Z4 o))):=by
 unfold execOp;rw[(aDk ha).1];simp only[Sem.run_bind,hz,Result.andThen_ok,Sem.run_pure,ptrTo]
theorem anC{z:TypeId→Obj}{n g:Nat}{L:Array Bool→Act→Prop}{Q':Exit→Act→World→Prop}(hap:aco ops n=true)(hsel:∀ (j:Nat) (o:Oper) cs b,ops[j]?=some o→o.op≠.select cs b)
  (hz:∀ i o,i<n→ops[i]?=some o→BH o=true→∀ w,(Instr.alloc (Z4 o) true (.tuple #[])).run P w=.ok (.pointer (some ⟨w.heap.size,0,none⟩)) (w.alloc (z (Z4 o))))
  (hL:∀ listed a,L listed a→∀ M w,Fits ops wd z n listed M w→wpAny P md ops Q' g listed (fill ops M a) w) :
  ∀ (f:Nat) (listed:Array Bool) (a:Act) (M:List (Nat × Nat)) (w:World),Fits ops wd z n listed M w→aob P md ops wd n L f listed a→wpAny P md ops Q' (f+g) listed (fill ops M a) w
 |0,listed,a,M,w,hw,h=>by rw[Nat.zero_add];exact hL _ _ h M w hw
 |f+1,listed,a,M,w,hw,h=>by
  rw[show f+1+g=(f+g)+1 by omega];refine⟨fun h0=>absurd h0 h.1,fun i hi=>?_⟩;obtain⟨hin,hc⟩:=h.2 i hi;obtain⟨hun,oi,hoi,-⟩:=mem_ready.1 hi;have hne:∀ x∈M,x.1<n∧x.1≠i∧∃ o,ops[x.1]?=some o∧BH o=true:=fun x hx=>by
   obtain⟨h1,h2,o,h3,h4,-⟩:=hw.mem x hx;refine⟨h1,fun e=>?_,o,h3,h4⟩;rw[e,getD_both hun]at h2;cases h2
  obtain⟨e1,e2,e3⟩:=aDs (z:=z) (listed:=listed) (w:=w) hap (fun cs b=>hsel i oi cs b hoi) hin hoi M a hne;unfold NH at hc;unfold wpOp;simp only[hoi]at hc ⊢;by_cases ha:BH oi=true
  ·rw[dB ha]at hc;have hwn:Region.wanted oi (yielded ops (fill ops M a).tmps)=true:=by unfold Region.wanted;rw[(aDk ha).2]
   rw[dB hwn];left;unfold Oper.wp;rw[aLI ha (hz i oi hin hoi ha)];show wpAny P md ops Q' (f+g) _ ((fill ops M a).put oi.dst (ptrTo w.heap.size)) _;have:=anC hap hsel hz hL f _ a ((i,w.heap.size)::M) _ (hw.new hin hi hoi ha) hc;have e:QJ ops i=oi.dst:=by unfold QJ;rw[hoi];rfl
   unfold fill at this;rw[e]at this;exact this
  ·rw[dw ha]at hc;have hna:∀ o,ops[i]?=some o→BH o=false:=fun o ho=>by rw[hoi]at ho;cases ho;simpa using ha
   rw[e2];split
   ·rename_i hwn;rw[dB hwn]at hc;left;obtain⟨v,h1,h2⟩:=hc;have h3:=h1 w hw.grown;unfold Oper.quietAt at h3;unfold Oper.wp;rw[e1];generalize (execOp a.eval oi).run P w=r at h3;cases r with
    |ok nx w' =>
     cases nx<;>simp only[Oper.quietUpon]at h3<;>simp only[Oper.upon]
     case value u =>
      obtain⟨q1,q2⟩:=h3;rw[q1,q2,e3];exact aBP
     case skip =>
      obtain⟨q1,q2⟩:=h3;rw[q1,←q2,e3];exact aBP
     case enter fn args =>
      obtain⟨q1,q2⟩:=h3;rw[q1];refine q2.mono fun e w'' ⟨he,hb⟩=>?_;subst he;simp only;rw[e3];exact anC hap hsel hz hL f _ _ M w'' (hw.step hb hna) h2
    |halt x w'=>simp only[Oper.quietUpon]at h3
   ·rename_i hwn;rw[dw hwn]at hc;rw[e3];exact anC hap hsel hz hL f _ _ M w (hw.step (Below.refl _ _) hna) hc
theorem aLJ{n:Nat}(hap:aco ops n=true){L M:List (Nat × Nat)}(h:L.Perm M):∀ (a:Act),(∀ x∈L,x.1<n∧∃ o,ops[x.1]?=some o∧BH o=true)→(L.map (·.1)).Nodup→fill ops L a=fill ops M a:=by
 induction h with
 |nil=>intro a _ _;rfl
 |cons x _ ih =>
  intro a h1 h2;simp only[List.map_cons,List.nodup_cons]at h2;unfold fill;rw[ih a (fun y hy=>h1 y (List.mem_cons_of_mem _ hy)) h2.2]
 |swap x y L =>
  intro a h1 h2;simp only[List.map_cons,List.nodup_cons,List.mem_cons,not_or]at h2;obtain⟨ex,ox,hx,ax⟩:=h1 x dY;obtain⟨ey,oy,hy,ay⟩:=h1 y dY;unfold fill;unfold fill;refine Act.put_comm _ _ _ fun d hd=>?_;have e:QJ ops y.1=oy.dst:=by unfold QJ;rw[hy];rfl
  rw[e];exact(aDr hap ex ey (Ne.symm h2.1.1) hx hy ax).2 d hd
 |trans h12 _ ih1 ih2 =>
  intro a h1 h2;rw[ih1 a h1 h2];exact ih2 a (fun x hx=>h1 x (h12.mem_iff.2 hx)) ((h12.map _).nodup_iff.1 h2)
end
def acp(l:List Oper)(n:Nat):List Nat:=(List.range n).filter fun i=>match l[i]? with|some o=>BH o|none=>false
def acr(l:List Oper)(i:Nat):TypeId:=match l[i]? with|some o=>Z4 o|none=>0
theorem avz{l:List Oper}{n i:Nat}:i∈acp l n↔i<n∧∃ o,l[i]?=some o∧BH o=true:=by
 unfold acp;rw[List.mem_filter,List.mem_range];refine and_congr_right fun _=>?_;cases h:l[i]? with
 |none=>simp
 |some o=>simp
theorem aDt{P:Program}{id:Nat}{Q:Exit→Act→World→Prop}{a:Act}{w:World}{l:List Oper}(z:TypeId→Obj)(n:Nat)(Al:List Nat)(hm:P.follows .mixedOrders=true)(hB:Region.lexTailB .any l.toArray n=true)
  (hA:aco l.toArray n=true) (hAl:acp l n=Al)
  (hz:∀ i∈Al,∀ w,(Instr.alloc (acr l i) true (.tuple #[])).run P w=.ok (.pointer (some ⟨w.heap.size,0,none⟩)) (w.alloc (z (acr l i))))
  (h : KW P l.toArray w (fun a' => ∀ (g : Nat → Nat) w', Below w.heap.size w w' → (∀ i ∈ Al, w.heap.size ≤ g i ∧ w'.heap[g i]? = some (z (acr l i))) → (∀ i ∈ Al, ∀ j ∈ Al, i ≠ j → g i ≠ g j) →
   wpList P l.toArray Q (l.drop n) (fill l.toArray (Al.map fun i=>(i,g i)) a') w') (l.take n) a):(Code.region id l.toArray true).wp P Q a w:=by
 subst hAl;simp only[Region.lexTailB,Bool.and_eq_true,decide_eq_true_eq]at hB;obtain⟨⟨⟨⟨hsel,hn⟩,hs⟩,hc⟩,hlex⟩:=hB;refine aBp ?_;intro hn' htl hdl inv0;have H:=aDp (wd:=w) (md:=.any) (g:=l.toArray.size-n) hsel hs hc hn (l.take n) 0 _ a (fun j hj=>by
  have hj':j<n:=by rw[htl]at hj;exact hj
  simp[hj']) (by simpa using htl) inv0 (by rw[htl];exact hlex) h (fun i hi=>by omega)
 refine wp_region_any hm ?_;have hfit:Fits l.toArray w z n (Array.replicate l.toArray.size false) [] { w with drawn:=w.drawn+1} :=
  ⟨⟨⟨w.drawn+1,#[]⟩,by rw[grow_empty];rfl⟩,fun i o _ hl _ _=>aBl,fun x hx=>by simp at hx,by simp,by simp⟩
 have:=anC (wd:=w) (Q':=Q) (g:=l.toArray.size-n) hA (Region.noSelect_spec hsel) (fun i o hi ho ha=>by
   have ho':l[i]?=some o:=by simpa using ho
   have:=hz i (avz.2 ⟨hi,o,ho',ha⟩)
   unfold acr at this
   rw[ho']at this
   exact this) (fun listed a' hL M w' hw'=>by
  obtain⟨⟨hseq,hall⟩,hL⟩:=hL
  have hgd:∀ x∈M,((M.find? (fun y=>y.1==x.1)).map (·.2)).getD 0=x.2:=fun x hx=>by
   cases hf:M.find? (fun y=>y.1==x.1)with
   |none=>have:=List.find?_eq_none.1 hf x hx;simp at this
   |some y =>
    have hy:=List.mem_of_find?_eq_some hf
    have e:=List.find?_some hf
    have e:y.1=x.1:=aeI
    have hn2:=hw'.ni
    have:y=x:=by
     have:=aDl M hn2 y hy x hx e
     exact this
    rw[this];rfl
  have hmem:∀ i,i∈M.map (·.1)↔i∈acp l n:=fun i=>by
   constructor
   ·intro hi
    obtain⟨x,hx,rfl⟩:=List.mem_map.1 hi
    obtain⟨h1,-,o,h3,h4,-⟩:=hw'.mem x hx
    exact avz.2 ⟨h1,o,by simpa using h3,h4⟩
   ·intro hi
    obtain⟨h1,o,h2,h3⟩:=avz.1 hi
    exact hw'.all i o h1 (hall i h1) (by simpa using h2) h3
  have hperm:(M.map (·.1)).Perm (acp l n):=(List.perm_ext_iff_of_nodup hw'.ni ((List.nodup_range).filter _)).2 hmem
  have hM:M=(M.map (·.1)).map (fun i=>(i,((M.find? (fun y=>y.1==i)).map (·.2)).getD 0)):=by
   rw[List.map_map]
   conv=>lhs;rw[←List.map_id M]
   refine List.map_congr_left fun x hx=>?_
   show x=(x.1,_)
   simp only[hgd x hx]
  have hP2:M.Perm ((acp l n).map (fun i=>(i,((M.find? (fun y=>y.1==i)).map (·.2)).getD 0))):=by
   conv=>lhs;rw[hM]
   exact hperm.map _
  have hfp:=aLJ hA hP2 a' (fun x hx=>by obtain⟨h1,-,o,h3,h4,-⟩:=hw'.mem x hx;exact⟨h1,o,h3,h4⟩) hw'.ni
  rw[hfp]
  have hat:∀ i∈acp l n,∃ x∈M,x.1=i∧((M.find? (fun y=>y.1==i)).map (·.2)).getD 0=x.2:=fun i hi=>by
   obtain⟨x,hx,rfl⟩:=List.mem_map.1 ((hmem i).2 hi)
   exact⟨x,hx,rfl,hgd x hx⟩
  have hlast:=hL (fun i=>((M.find? (fun y=>y.1==i)).map (·.2)).getD 0) w' (grown_below hw'.grown) (fun i hi=>by
    obtain⟨x,hx,rfl,e⟩:=hat i hi
    obtain⟨-,-,o,h3,h4,h5,h6⟩:=hw'.mem x hx
    have h3':l[x.1]?=some o:=by simpa using h3
    simp only[e]
    refine⟨h5,?_⟩
    unfold acr
    rw[h3']
    exact h6) (fun i hi j hj hij e=>by
    obtain⟨x,hx,rfl,ex⟩:=hat i hi
    obtain⟨y,hy,rfl,ey⟩:=hat j hj
    simp only[ex,ey]at e
    exact hij (congrArg (·.1) (aDm M hw'.nm x hx y hy e)))
  have:=wpAny_of_seq (md:=.any) (Q':=Q) (l.drop n) n listed _ w' (fun j=>by simp[List.getElem?_drop]) (by rw[hdl];exact hseq) hlast
  rwa [hdl]at this) _ _ _ [] _ hfit H
 exact aBF
theorem aLK{P:Program}{id:Nat}{Q:Exit→Act→World→Prop}{a:Act}{w:World}{l:List Oper}(n i:Nat)(d:Tmp)(ty:TypeId)(z:Obj)(hm:P.follows .mixedOrders=true)(hB:Region.lexTailB .any l.toArray n=true)
  (hA:aco l.toArray n=true) (hAl:acp l n=[i]) (hd:QJ l.toArray i=some d) (hty:acr l i=ty)
  (hz:∀ w,(Instr.alloc ty true (.tuple #[])).run P w=.ok (.pointer (some ⟨w.heap.size,0,none⟩)) (w.alloc z))
  (h : KW P l.toArray w (fun a' => ∀ (m : Nat) w', Below w.heap.size w w' → w.heap.size ≤ m → w'.heap[m]? = some z →
   wpList P l.toArray Q (l.drop n) (a'.put (some d) (.pointer (some ⟨m,0,none⟩))) w') (l.take n) a):(Code.region id l.toArray true).wp P Q a w:=by
 refine aDt (fun _=>z) n [i] hm hB hA hAl (fun j hj w=>by rw[List.mem_singleton.1 hj,hty];exact hz w) ?_;have:∀ a':Act,(∀ (m:Nat) w',Below w.heap.size w w'→w.heap.size≤m→w'.heap[m]?=some z→wpList P l.toArray Q (l.drop n) (a'.put (some d) (.pointer (some ⟨m,0,none⟩))) w') →
   ∀ (g:Nat→Nat) w',Below w.heap.size w w'→(∀ i'∈[i],w.heap.size≤g i'∧w'.heap[g i']?=some z)→(∀ i'∈[i],∀ j'∈[i],i'≠j'→g i'≠g j')→wpList P l.toArray Q (l.drop n) (fill l.toArray ([i].map fun i=>(i,g i)) a') w':=fun a' h g w' hb h1 _=>by
  have:=h1 i dY;have k:=h (g i) w' hb this.1 this.2;show wpList P l.toArray Q (l.drop n) (Act.put a' (QJ l.toArray i) (ptrTo (g i))) w';rw[hd];exact k
 exact aoa this (l.take n) a h
theorem ayz{P:Program}{id:Nat}{Q:Exit→Act→World→Prop}{a:Act}{w:World}{l:List Oper}(n i j:Nat)(d e:Tmp)(ty te:TypeId)(z ze:Obj)(hm:P.follows .mixedOrders=true)(hB:Region.lexTailB .any l.toArray n=true)
  (hA:aco l.toArray n=true) (hAl:acp l n=[i,j]) (hd:QJ l.toArray i=some d) (he:QJ l.toArray j=some e) (hty:acr l i=ty) (hte:acr l j=te) (hij:i≠j) (hsame:ty=te→z=ze)
  (hz:∀ w,(Instr.alloc ty true (.tuple #[])).run P w=.ok (.pointer (some ⟨w.heap.size,0,none⟩)) (w.alloc z))
  (hze:∀ w,(Instr.alloc te true (.tuple #[])).run P w=.ok (.pointer (some ⟨w.heap.size,0,none⟩)) (w.alloc ze))
  (h : KW P l.toArray w (fun a' => ∀ (m k : Nat) w', Below w.heap.size w w' → w.heap.size ≤ m → w'.heap[m]? = some z → w.heap.size ≤ k → w'.heap[k]? = some ze → m ≠ k →
   wpList P l.toArray Q (l.drop n) ((a'.put (some e) (.pointer (some ⟨k,0,none⟩))).put (some d) (.pointer (some ⟨m,0,none⟩))) w') (l.take n) a):(Code.region id l.toArray true).wp P Q a w:=by
 refine aDt (fun t=>if t=ty then z else ze) n [i,j] hm hB hA hAl (fun x hx w=>?_) ?_
 ·simp only[List.mem_cons,List.not_mem_nil,or_false]at hx;rcases hx with rfl|rfl
  ·rw[hty,dB rfl];exact hz w
  ·rw[hte];by_cases q:te=ty
   ·rw[dB q,q,hsame q.symm];rw[←q];exact hze w
   ·rw[dw q];exact hze w
 have:∀ a':Act,(∀ (m k:Nat) w',Below w.heap.size w w'→w.heap.size≤m→w'.heap[m]?=some z→w.heap.size≤k→w'.heap[k]?=some ze→m≠k→wpList P l.toArray Q (l.drop n) ((a'.put (some e) (.pointer (some ⟨k,0,none⟩))).put (some d) (.pointer (some ⟨m,0,none⟩))) w') →
   ∀ (g:Nat→Nat) w',Below w.heap.size w w'→(∀ i'∈[i,j],w.heap.size≤g i'∧w'.heap[g i']?=some (if acr l i'=ty then z else ze))→(∀ i'∈[i,j],∀ j'∈[i,j],i'≠j'→g i'≠g j')→wpList P l.toArray Q (l.drop n) (fill l.toArray ([i,j].map fun i=>(i,g i)) a') w':=fun a' h g w' hb h1 h2=>by
  have x:=h1 i dY;have y:=h1 j dY;rw[hty,dB rfl]at x;have y2:w'.heap[g j]?=some ze:=by
   rw[hte]at y;by_cases q:te=ty
   ·rw[dB q,hsame q.symm]at y;exact y.2
   ·rw[dw q]at y;exact y.2
  have k:=h (g i) (g j) w' hb x.1 x.2 y.1 y2 (h2 i dY j dY hij);show wpList P l.toArray Q (l.drop n) (Act.put (Act.put a' (QJ l.toArray j) (ptrTo (g j))) (QJ l.toArray i) (ptrTo (g i))) w';rw[hd,he];exact k
 exact aoa this (l.take n) a h
end Go.Proofs.YtglilddlhibogaaGreatDoor.W
namespace Go.Proofs.YtglilddlhibogaaGreatDoor.W
open Go.RowKit Go.Proofs.YtglilddlhibogaaGreatDoor.P
theorem arG{P:Program}(w:World)(dT sT ty elem:TypeId)(size g o dLen dCap:Nat)(a:Addr)(sLen sCap:Nat)(cur:List Value)(t:TypeId)(cs:List Value)
  (hu:P.underlying dT=some (.slice elem)) (hs:(P.info? elem).map (·.size)=some size) (hg:w.heap[g]?=some (.cells cur.toArray t (0,0))) (hn:cs.length=Nat.min sLen dLen*size)
  (hsrc:∀ j v,cs[j]?=some v→w.cell? (a.add j)=some v) (hfit:o+cs.length≤cur.length) (h1:∀ v∈cs,v.oneCell'=true) :
  (Builtin.copy_ #[dT,sT] ty #[.slice (some ⟨g,o,none⟩) dLen dCap,.slice (some a) sLen sCap]).run P w=.ok (goInt (Nat.min sLen dLen)) (w.setRow g (cur.take o++cs++cur.drop (o+cs.length)).toArray):=by
 have hl:=run_loadCells_list (P:=P) w a cs hsrc;have hst:=run_storeCells_at P g o t cs 0 cur.toArray w hg (by simpa using hfit) h1;cases hq:P.info? elem with
 |none=>simp[hq]at hs
 |some i =>
  have hi:i.size=size:=by simpa[hq]using hs
  rw[hn]at hl;simp[Builtin.copy_,run_underlying hu,Builtin.lenOf,Builtin.firstCells,sizeOf,typeInfo,hq,hi,hl,hst]
theorem aNf{P:Program}(w:World){ops:Array Oper}{rest:List Oper}{o:Oper}{a:Act}{Q:Exit→Act→World→Prop}(hgd:o.guard=none)(d s:Operand)(t t':TypeId)
  (ho:o.op=.call { callee:=.builtin .copy,args:=#[d,s],argTypes:=#[t,t']}) (v u:Value) (hd:a.eval d=v) (hs:a.eval s=u) {v':Value} {w':World}
  (hr:(Builtin.copy_ #[t,t'] o.type #[v,u]).run P w=.ok v' w') (h:wpList P ops Q rest (a.put o.dst v') w'):wpList P ops Q (o::rest) a w:=by
 exact aAU
theorem aEq{P:Program}{ops:Array Oper}{o:Oper}{a:Act}{w:World}{K:Act→World→Prop}{Q:Exit→Act→World→Prop}{E:Prop}
  (hg:o.guard=none) (d x:Operand) (dT sT:TypeId) (hop:o.op=Op.call { callee:=Callee.builtin Builtin.copy,args:=#[d,x],argTypes:=#[dT,sT]})
  (v u:Value) (hd:a.eval d=v) (hx:a.eval x=u) {v':Value} {w':World} (hr:(Builtin.copy_ #[dT,sT] o.type #[v,u]).run P w=.ok v' w') (hK:K (a.put o.dst v') w') :
  if Region.wanted o (yielded ops a.tmps)=true then Oper.wp P o a w K Q else E:=by
 exact axX
theorem avK:((Tryz.prog).info? 106).map (fun i=>(i.zero,i.size,i.bytes))=some (some (.agg #[aU 0,aU 0,.slice none 0 0,aU 0,aU 0,aU 0,aU 0,aU 0,aU 0,aU 0,aU 0,aU 0,aU 0,aU 0,aU 0,aU 0,aU 0,aU 0,aU 0]),19,168):=dF
theorem an9:((Tryz.prog).info? 106).map (·.size)=some 19:=dF
theorem aNg{P:Program}(w:World)(t ty e:TypeId)(i:TypeInfo)(ht:P.underlying t=some (.slice e))(hi:P.info? e=some i)
  (g sLen sCap:Nat) (cur:Array Value) (hg:w.heap[g]?=some (.cells cur e (0,0)))
  (a:Addr) (m c:Nat) (news:List Value) (hl:news.length=m*i.size) (hnews:∀ j u,news[j]?=some u→w.cell? (a.add j)=some u) (h1:∀ u∈news,u.oneCell'=true)
  (hroom:sLen+m≤sCap) (hfit:sLen*i.size+news.length≤cur.size) :
  (Builtin.append_ #[t,t] ty #[.slice (some ⟨g,0,none⟩) sLen sCap,.slice (some a) m c]).run P w =
   .ok (.slice (some ⟨g,0,none⟩) (sLen+m) sCap) (w.setRow g (cur.toList.take (sLen*i.size)++news++cur.toList.drop (sLen*i.size+news.length)).toArray):=by
 have hf:=run_firstCells_some (P:=P) w i.size m a m c news hl hnews;have hst:=run_storeCells_at P g (sLen*i.size) e news 0 cur w hg (by simpa using hfit) h1;exact axQ
theorem auA(z:Array Value)(k:Nat):(Builtin.zeroCells z k).size=k*z.size:=by simp[Builtin.zeroCells]
theorem aNh(B:Nat)(v:Value)(n:Nat)(xs new:List Value)(ad c:Nat)(W:World)(hn:n<8)(hB:B≤W.heap.size)(hown:W.ownsRow B 106 19 v n xs)(hl:new.length=19)
  (hc:∀ j u,new[j]?=some u→W.cell? ⟨ad,j,none⟩=some u) (h1:∀ u∈new,u.oneCell'=true) :
  ∃ v' W',(∀ ty,(Builtin.append_ #[71,71] ty #[v,.slice (some ⟨ad,0,none⟩) 1 c]).run Tryz.prog W=.ok v' W')∧W'.ownsRow B 106 19 v' (n+1) (xs++new)∧W.grownBy W' v.ownBlock∧(v'.ownBlock=v.ownBlock∨∀ b,v'.ownBlock=some b→W.heap.size≤b):=by
 obtain⟨i0,hi,hq⟩:=Option.map_eq_some_iff.1 avK;have hz0:i0.zero=some _:=congrArg (·.1) hq;have hz1:i0.size=19:=congrArg (·.2.1) hq;have hz2:i0.bytes=168:=congrArg (·.2.2) hq;have hadd:∀ b j,(⟨b,0,none⟩:Addr).add j=⟨b,j,none⟩:=fun b j=>by unfold Addr.add;split<;>simp_all
 have hc':∀ j u,new[j]?=some u→W.cell? ((⟨ad,0,none⟩:Addr).add j)=some u:=fun j u hj=>by rw[hadd];exact hc j u hj
 obtain⟨z,hz,hzs⟩:∃ z,i0.zero=some z∧z.cells.size=19:=⟨_,hz0,rfl⟩;have hsrc:Src Tryz.prog i0.size 71 (.slice (some ⟨ad,0,none⟩) 1 c) 1 new W:=by
  rw[hz1];exact Src.ofSlice W Tryz.underlying71 ⟨ad,0,none⟩ 1 c new (by rw[hl]) hc' h1
 have grow:∀ (og:Option Addr) (cap:Nat),cap≤n→(Builtin.firstCells i0.size n (.slice og n cap)).run Tryz.prog W.drew=.ok xs.toArray W.drew→v=.slice og n cap →
   ∃ v' W',(∀ ty,(Builtin.append_ #[71,71] ty #[v,.slice (some ⟨ad,0,none⟩) 1 c]).run Tryz.prog W=.ok v' W')∧W'.ownsRow B 106 19 v' (n+1) (xs++new)∧W.grownBy W' v.ownBlock∧(v'.ownBlock=v.ownBlock∨∀ b,v'.ownBlock=some b→W.heap.size≤b):=by
  rintro og cap hcap hold rfl;refine⟨_,_,fun ty=>run_append_grow_src W _ _ ty 106 i0 z Tryz.underlying71 hi hz og n cap xs hold _ 1 new hsrc bQ bQ asH,?_,?_,.inr fun b hb=>ao9⟩
  ·refine⟨by rw[List.length_append,hown.1,hl,Nat.succ_mul],.inr ⟨W.heap.size,grownCap W (n+1) cap 106,_,rfl,hB,heap_alloc_new W.drew _,grownCap_ge W _ _ _,grownCap_le_maxLen W _ _ _ JF,?_,?_⟩⟩
   ·have hge:=grownCap_ge W (n+1) cap 106;simp only[Array.size_append,auA,hzs,List.size_toArray,List.length_append,hown.1,hl];rw[Nat.sub_mul];omega
   ·simp only[Array.toList_append];rw[List.take_append_of_le_length,List.take_of_length_le]
    ·simp[hown.1,hl]<;>omega
    ·simp[hown.1,hl]<;>omega
  ·exact asI
 rcases hown.2 with ⟨rfl,rfl⟩|⟨g,cap,cur,rfl,hbg,hg,hcap,hmax,hcs,hxs⟩
 ·refine grow none 0 bQ ?_ rfl;have hx0:xs=[]:=List.eq_nil_of_length_eq_zero (by rw[hown.1]);subst hx0;rw[hz1];exact run_firstCells_none W.drew 19 0 0 0
 ·by_cases hr:n+1≤cap
  ·have hcl:cur.toList.length=cap*19:=auZ;refine⟨_,_,fun ty=>aNg W _ ty 106 i0 Tryz.underlying71 hi g n cap cur hg ⟨ad,0,none⟩ 1 c new (by rw[hz1,hl]) hc' h1 hr (by rw[hz1,hl];omega),?_,⟨rfl,rfl,rfl,by simp[World.setRow],fun k hk ne=>setRow_other _ g k _ (fun e=>ne (congrArg some e))⟩,.inl rfl⟩;refine⟨by rw[List.length_append,hown.1,hl,Nat.succ_mul],.inr ⟨g,cap,_,rfl,hbg,setRow_heap W g _ _ _ _ hg,hr,hmax,?_,?_⟩⟩
   ·rw[hz1,hl];simp only[List.size_toArray,List.length_append,List.length_take,List.length_drop,hcl,hl];omega
   ·rw[hz1,hl,hxs];show List.take ((n+1)*19) (xs++new++_)=_;rw[List.take_append_of_le_length,List.take_of_length_le]
    ·rw[List.length_append,hown.1,hl];omega
    ·rw[List.length_append,hown.1,hl];omega
  ·refine grow (some ⟨g,0,none⟩) cap bQ ?_ rfl;rw[hz1];refine run_firstCells_some W.drew 19 n ⟨g,0,none⟩ n cap xs hown.1 fun j u hj=>?_;rw[hadd];show W.cell? _=_;rw[cell_of_row W g j cur 106 (0,0) hg];exact auw
theorem akB{P:Program}(w:World){ops:Array Oper}{rest:List Oper}{o:Oper}{a:Act}{Q:Exit→Act→World→Prop}(hgd:o.guard=none)(d s:Operand)(t t':TypeId)
  (ho:o.op=.call { callee:=.builtin .append,args:=#[d,s],argTypes:=#[t,t']}) (v u:Value) (hd:a.eval d=v) (hs:a.eval s=u) {v':Value} {w':World}
  (hr:(Builtin.append_ #[t,t'] o.type #[v,u]).run P w=.ok v' w') (h:wpList P ops Q rest (a.put o.dst v') w'):wpList P ops Q (o::rest) a w:=by
 exact aAU
theorem aNi(B:Nat)(v:Value)(n:Nat)(xs new:List Value)(ad c:Nat)(w:World)(hn:n<8)(hB:B≤w.heap.size)(hown:w.ownsRow B 106 19 v n xs)(hl:new.length=19)
  (hc:∀ j u,new[j]?=some u→w.cell? ⟨ad,j,none⟩=some u) (h1:∀ u∈new,u.oneCell'=true) :
  Calls Tryz.prog 46 #[v,aU n,.slice (some ⟨ad,0,none⟩) 1 c] w fun e w'=>∃ v',e=.returned v'∧w'.ownsRow B 106 19 v' (n+1) (xs++new)∧w.grownBy w' v.ownBlock∧(v'.ownBlock=v.ownBlock∨∀ b,v'.ownBlock=some b→w.heap.size≤b):=by
 obtain⟨v8,W8,hrun,hpost⟩:=aNh B v n xs new ad c w hn hB hown hl hc h1;have HP:=bW hpost;clear hpost;rcases hown.2 with ⟨rfl,rfl⟩|⟨g,cap,cur,rfl,hbg,hg,hcap,hmax,hcs,hxs⟩
 ·clear hown hc;go_enter Tryz.func46,Tryz.ntmps46;go_wp2_with (at_builtin;refine akB _ rfl _ _ 71 71 rfl _ _ rfl rfl (hrun _) ?_);go_ret
  exact⟨v8,rfl,HP.out⟩
 ·have hm63:cap≤9223372036854775807:=by unfold maxLen at hmax;omega
  clear hown hc hg hcs hxs;go_enter Tryz.func46,Tryz.ntmps46;go_wp2_with (at_builtin;refine akB _ rfl _ _ 71 71 rfl _ _ rfl rfl (hrun _) ?_);all_goals go_ret
  all_goals exact⟨v8,rfl,HP.out⟩
theorem aEr{w:World}{b:Nat}{c:Array Value}{t:TypeId}(h:w.heap[b]?=some (.cells c t (0,0))):w.shape? b=some (t,c.size):=by simp[World.shape?,h]
theorem aNj(B g n cap i:Nat)(cur:Array Value)(xs new:List Value)(ad c:Nat)(QK:Array Value)(w:World)(hn:n<8)(hi:i<n)(hroom:n+1≤cap)(hmax:cap≤maxLen)(hBg:B≤g)(hg:w.heap[g]?=some (.cells cur 106 (0,0)))
  (hcs:cur.size=cap*19) (hxs:cur.toList.take (n*19)=xs) (hl:new.length=19) (hx1:∀ u∈xs,u.oneCell'=true)
  (had:ad≠g) (ha:w.heap[ad]?=some (.cells QK 106 (0,0))) (hca:QK.toList=new) (h1:∀ u∈new,u.oneCell'=true) :
  Calls Tryz.prog 46 #[.slice (some ⟨g,0,none⟩) n cap,aU i,.slice (some ⟨ad,0,none⟩) 1 c] w fun e w'=>∃ v',e=.returned v'∧w'.ownsRow B 106 19 v' (n+1) (xs.take (i*19)++new++xs.drop (i*19))∧w.grownBy w' (some g)∧((v'.ownBlock=some g)∨∀ b,v'.ownBlock=some b→w.heap.size≤b):=by
 have hm63:cap≤9223372036854775807:=by unfold maxLen at hmax;omega
 have hz2:¬((i:Int)=(n:Int)):=bQ;have hw1:IntKind.i64.wrap ((i:Int)+1)=(i:Int)+1:=X0;have mixed:Tryz.prog.follows .mixedOrders=true:=dF;have hb1:(0:Int)≤(i:Int)+1:=bQ;have hb3:(i:Int)≤(n:Int)+1:=bQ;have hin:i≤n:=bQ;have htn:((i:Int)+1).toNat=i+1:=bQ;have hb2:¬(cap=i+1):=bQ;have hb4:¬(cap=i):=bQ;have hov:∀ lb cb,(callFunc 78 #[.slice (some ⟨ad,0,none⟩) 1 c,.slice (some ⟨g,(i+1)*19,none⟩) lb cb]).run Tryz.prog w=.ok (.value (.bool false)) w:=fun lb cb=>by
  rw[run_callFunc_extern Tryz.func78 dF dF dF (e:=Extern.SlicesOverlaps.overlaps #[71,71] #[4]) dF];rw[Lib.run_overlaps_apart w 71 4 106 Tryz.underlying71 19 (fun w=>by kernel_rfl) ⟨ad,0,none⟩ ⟨g,(i+1)*19,none⟩ 1 c lb cb had _ _ _ _ (aEr ha) (aEr hg) (by rw[hcs];omega) (by simp[World.frozen?,ha]) (by simp[World.frozen?,ha])];rfl
 go_enter Tryz.func46,Tryz.ntmps46;have CQ:(xs.drop (i*19)).length=(n-i)*19:=by
  have h1:(cur.toList.take (n*19)).length=n*19:=by rw[List.length_take,Array.length_toList,hcs];omega
  rw[List.length_drop,←hxs,h1,Nat.sub_mul]
 have hcl:cur.toList.length=cap*19:=auZ;have hxl:xs.length=n*19:=by rw[←hxs,List.length_take,hcl];omega
 have hxa:∀ j u,xs[j]?=some u→w.cell? ⟨g,j,none⟩=some u:=fun j u hj=>by
  rw[cell_of_row w g j cur 106 (0,0) hg];exact auw
 have hga:∀ k j,(⟨g,k,none⟩:Addr).add j=⟨g,k+j,none⟩:=fun k j=>by unfold Addr.add;split<;>simp_all
 have aNk:∀ j,(⟨ad,0,none⟩:Addr).add j=⟨ad,j,none⟩:=fun j=>by unfold Addr.add;split<;>simp_all
 obtain⟨Il,aao⟩:∃ l,l=cur.toList.take ((i+1)*19)++xs.drop (i*19)++cur.toList.drop ((i+1)*19+(xs.drop (i*19)).length):=⟨_,rfl⟩;have agl:Il.length=cap*19:=by
  rw[aao,List.length_append,List.length_append,CQ,List.length_take,List.length_drop,hcl,Nat.sub_mul];omega
 have hcp1:∀ ty dc sc,(Builtin.copy_ #[71,71] ty #[.slice (some ⟨g,(i+1)*19,none⟩) (n+1-(i+1)) dc,.slice (some ⟨g,i*19,none⟩) (n+1-i) sc]).run Tryz.prog w.drew=.ok (goInt (Nat.min (n+1-i) (n+1-(i+1)))) (w.drew.setRow g Il.toArray):=fun ty dc sc=>by
  have:=arG (P:=Tryz.prog) w.drew 71 71 ty 106 19 g ((i+1)*19) (n+1-(i+1)) dc ⟨g,i*19,none⟩ (n+1-i) sc cur.toList 106 (xs.drop (i*19)) Tryz.underlying71 an9 (by rw[Array.toArray_toList];exact hg)
   (by rw[CQ,show Nat.min (n+1-i) (n+1-(i+1))=n-i by simp only[Nat.min_def];split<;>omega])
   (fun j u hj=>by rw[hga];exact hxa _ u (by rwa [List.getElem?_drop]at hj))
   (by rw[CQ,hcl,Nat.sub_mul];omega) (fun u hu=>hx1 u (List.mem_of_mem_drop hu))
  rw[←aao]at this;exact this
 obtain⟨W1,hW1⟩:∃ W1,W1=w.drew.setRow g Il.toArray:=⟨_,rfl⟩;have hg1:W1.heap[g]?=some (.cells Il.toArray 106 (0,0)):=by rw[hW1];exact setRow_heap w.drew g _ _ _ _ hg
 have ha1:W1.heap[ad]?=some (.cells QK 106 (0,0)):=by rw[hW1,setRow_other w.drew g ad _ had];exact ha
 obtain⟨YM,acu⟩:∃ l,l=Il.take (i*19)++new++Il.drop (i*19+new.length):=⟨_,rfl⟩;have hcp2:∀ ty dc,(Builtin.copy_ #[71,71] ty #[.slice (some ⟨g,i*19,none⟩) (n+1-i) dc,.slice (some ⟨ad,0,none⟩) 1 c]).run Tryz.prog W1=.ok (goInt (Nat.min 1 (n+1-i))) (W1.setRow g YM.toArray):=fun ty dc=>by
  have:=arG (P:=Tryz.prog) W1 71 71 ty 106 19 g (i*19) (n+1-i) dc ⟨ad,0,none⟩ 1 c Il 106 new Tryz.underlying71 an9 hg1
   aBm
   (fun j u hj=>by rw[aNk,cell_of_row W1 ad j QK 106 (0,0) ha1];rw[←hca]at hj;simpa using hj)
   (by rw[hl,agl];omega) h1
  rw[←acu]at this;exact this
 rw[←hW1]at hcp1;have hfin:YM.toArray.size=cap*19∧YM.toArray.toList.take ((n+1)*19)=xs.take (i*19)++new++xs.drop (i*19):=by
  have e1:Il.take (i*19)=xs.take (i*19):=by
   rw[aao,List.append_assoc,List.take_append_of_le_length atT,List.take_take,←hxs,List.take_take];congr 1;omega
  have e2:Il.drop (i*19+new.length)=xs.drop (i*19)++cur.toList.drop ((i+1)*19+(xs.drop (i*19)).length):=by
   rw[aao,List.append_assoc,List.drop_append,List.drop_eq_nil_of_le (by rw[List.length_take,hcl,hl];omega),List.length_take,hcl,hl,show i*19+19-min ((i+1)*19) (cap*19)=0 by omega];simp
  have e3:YM.length=cap*19:=by
   rw[acu,List.length_append,List.length_append,List.length_take,List.length_drop,agl,hl];omega
  refine⟨by simpa using e3,?_⟩;rw[acu,e1,e2];show List.take ((n+1)*19) (xs.take (i*19)++new++(xs.drop (i*19)++_))=_;rw[←List.append_assoc,List.take_append_of_le_length,List.take_of_length_le]
  ·exact ap1
  ·exact ap1
 have HW1:=bW hW1;have KG:=bW hfin;have HG1:=bW hg1;clear hW1 aao acu hfin hg1 ha1 agl CQ hcl hxl hxa hg ha hca hxs hcs;go_wp2_with (simp only[hov]);go_region_law_o (refine aEq rfl _ _ 71 71 rfl (.slice (some ⟨g,(i+1)*19,none⟩) (n+1-(i+1)) (cap-(i+1))) (.slice (some ⟨g,i*19,none⟩) (n+1-i) (cap-i)) acN acN (hcp1 _ _ _) ?_)
 go_wp2_with (at_builtin;refine aNf _ rfl _ _ 71 71 rfl _ _ rfl rfl (hcp2 _ _) ?_);go_ret
 refine⟨_,rfl,⟨?_,.inr ⟨g,cap,YM.toArray,rfl,hBg,setRow_heap W1 g _ _ _ _ HG1.out,hroom,hmax,KG.out.1,KG.out.2⟩⟩,?_,.inl rfl⟩
 ·exact aBG
 ·rw[HW1.out];refine⟨rfl,rfl,rfl,by simp[World.setRow],fun k hk ne=>?_⟩;have hne:k≠g:=fun e=>ne (congrArg some e);rw[setRow_other _ g k _ hne,setRow_other _ g k _ hne];rfl
theorem aNl(B g n cap i:Nat)(cur:Array Value)(xs new:List Value)(ad c:Nat)(QK:Array Value)(w:World)(hn:n<8)(hi:i<n)(hroom:cap<n+1)(hmax:n≤cap)(hB:B≤w.heap.size)(hg:w.heap[g]?=some (.cells cur 106 (0,0)))
  (hcs:cur.size=cap*19) (hxs:cur.toList.take (n*19)=xs) (hl:new.length=19) (hx1:∀ u∈xs,u.oneCell'=true)
  (ha:w.heap[ad]?=some (.cells QK 106 (0,0))) (hca:QK.toList=new) (h1:∀ u∈new,u.oneCell'=true) :
  Calls Tryz.prog 46 #[.slice (some ⟨g,0,none⟩) n cap,aU i,.slice (some ⟨ad,0,none⟩) 1 c] w fun e w'=>∃ v',e=.returned v'∧w'.ownsRow B 106 19 v' (n+1) (xs.take (i*19)++new++xs.drop (i*19))∧w.grownBy w' (some g)∧((v'.ownBlock=some g)∨∀ b,v'.ownBlock=some b→w.heap.size≤b):=by
 obtain⟨i0,hii,hq⟩:=Option.map_eq_some_iff.1 avK;have hz0:i0.zero=some _:=congrArg (·.1) hq;have hz1:i0.size=19:=congrArg (·.2.1) hq;have hz2:i0.bytes=168:=congrArg (·.2.2) hq;have hz3:(cap:Int)<(n:Int)+1:=bQ;have hzi:¬((i:Int)=(n:Int)):=bQ;have hgl:g<w.heap.size:=(Array.getElem?_eq_some_iff.1 hg).1;have aNm:ad<w.heap.size:=(Array.getElem?_eq_some_iff.1 ha).1;have mixed:Tryz.prog.follows .mixedOrders=true:=dF;have hcl:cur.toList.length=cap*19:=auZ;have hxl:xs.length=n*19:=by rw[←hxs,List.length_take,hcl];omega
 have CQ:(xs.drop (i*19)).length=(n-i)*19:=by rw[List.length_drop,hxl,Nat.sub_mul]
 have hxa:∀ j u,xs[j]?=some u→w.cell? ⟨g,j,none⟩=some u:=fun j u hj=>by
  rw[cell_of_row w g j cur 106 (0,0) hg];exact auw
 have hga:∀ b k j,(⟨b,k,none⟩:Addr).add j=⟨b,k+j,none⟩:=fun b k j=>by unfold Addr.add;split<;>simp_all
 have hik:i+(n+1-i)=n+1:=bQ;have hkk:(n:Int)+1-(i:Int)=((n+1-i:Nat):Int):=bQ;have hold:(Builtin.firstCells i0.size i (.slice (some ⟨g,0,none⟩) i cap)).run Tryz.prog w.drew=.ok (xs.take (i*19)).toArray w.drew:=by
  rw[hz1];exact run_firstCells_some w.drew 19 i ⟨g,0,none⟩ i cap (xs.take (i*19)) (by rw[List.length_take,hxl];omega) (fun j u hj=>by
   rw[hga,Nat.zero_add]
   rw[List.getElem?_take]at hj
   split at hj
   ·exact hxa j u hj
   ·cases hj)
 obtain⟨z,hz⟩:∃ z,i0.zero=some z∧z.cells.size=19:=⟨_,hz0,rfl⟩;obtain⟨hz,hzs⟩:=hz;have hrz:∀ ty,(Builtin.append_ #[71,3] ty #[.slice (some ⟨g,0,none⟩) i cap,aU ((n:Int)+1-(i:Int))]).run Tryz.prog w =
   .ok (.slice (some ⟨w.heap.size,0,none⟩) (n+1) (grownCap w (n+1) cap 106)) (w.drew.alloc (.cells ((xs.take (i*19)).toArray++Builtin.zeroCells z.cells (n+1-i)++Builtin.zeroCells z.cells (grownCap w (n+1) cap 106-(n+1))) 106)):=fun ty=>by
  have h:=Lib.run_append_grow_zeros w 71 3 ty 106 i0 z .i64 .i64 Tryz.underlying71 Tryz.underlying3 hii hz (some ⟨g,0,none⟩) i cap (xs.take (i*19)) hold (n+1-i) bQ bQ bQ bQ (by rw[hz2];omega) (by rw[hz2,hik];exact growslice_fits bQ bQ);rw[hik]at h;rw[hkk];exact h
 obtain⟨G,hG⟩:∃ G,G=grownCap w (n+1) cap 106:=⟨_,rfl⟩;have hGn:n+1≤G:=by rw[hG];exact grownCap_ge w _ _ _
 have hGm:G≤maxLen:=by rw[hG];exact grownCap_le_maxLen w (n+1) cap 106 JF
 have hG63:G≤9223372036854775807:=by unfold maxLen at hGm;omega
 obtain⟨R,hR⟩:∃ R:Array Value,R=(xs.take (i*19)).toArray++Builtin.zeroCells z.cells (n+1-i)++Builtin.zeroCells z.cells (G-(n+1)):=⟨_,rfl⟩;rw[←hG]at hrz;rw[←hR]at hrz;have hRl:R.toList.length=G*19:=by
  rw[hR,Array.length_toList];simp only[Array.size_append,auA,hzs,List.size_toArray,List.length_take,hxl];rw[Nat.sub_mul,Nat.sub_mul];omega
 have hR1:R.toList.take (i*19)=xs.take (i*19):=by
  rw[hR];simp only[Array.toList_append,List.append_assoc];rw[List.take_append_of_le_length (by rw[List.length_take,hxl];omega),List.take_of_length_le auY]
 obtain⟨Il,aao⟩:∃ l,l=R.toList.take (i*19)++new++R.toList.drop (i*19+new.length):=⟨_,rfl⟩;have agl:Il.length=G*19:=by
  rw[aao,List.length_append,List.length_append,hl,List.length_take,List.length_drop,hRl];omega
 obtain⟨YM,acu⟩:∃ l,l=Il.take ((i+1)*19)++xs.drop (i*19)++Il.drop ((i+1)*19+(xs.drop (i*19)).length):=⟨_,rfl⟩;have hcpA:∀ (W:World),W.heap=(w.alloc (.cells R 106)).heap→∀ ty dc,(Builtin.copy_ #[71,71] ty #[.slice (some ⟨w.heap.size,i*19,none⟩) (n+1-i) dc,.slice (some ⟨ad,0,none⟩) 1 c]).run Tryz.prog W=.ok (goInt (Nat.min 1 (n+1-i))) (W.setRow w.heap.size Il.toArray):=fun W hW ty dc=>by
  have hRg:W.heap[w.heap.size]?=some (.cells R.toList.toArray 106 (0,0)):=by rw[hW,Array.toArray_toList];exact heap_alloc_new w _
  have hag:W.heap[ad]?=some (.cells QK 106 (0,0)):=by rw[hW,Below.heap_alloc w _ ad aNm];exact ha
  have:=arG (P:=Tryz.prog) W 71 71 ty 106 19 w.heap.size (i*19) (n+1-i) dc ⟨ad,0,none⟩ 1 c R.toList 106 new Tryz.underlying71 an9 hRg
   aBm
   (fun j u hj=>by rw[hga,Nat.zero_add,cell_of_row W ad j QK 106 (0,0) hag];rw[←hca]at hj;simpa using hj)
   (by rw[hl,hRl];omega) h1
  rw[←aao]at this;exact this
 have hcpB:∀ (W:World),W.heap[w.heap.size]?=some (.cells Il.toArray 106 (0,0))→W.heap[g]?=w.heap[g]?→∀ ty dc sc,(Builtin.copy_ #[71,71] ty #[.slice (some ⟨w.heap.size,(i+1)*19,none⟩) (n+1-(i+1)) dc,.slice (some ⟨g,i*19,none⟩) (n-i) sc]).run Tryz.prog W=.ok (goInt (Nat.min (n-i) (n+1-(i+1)))) (W.setRow w.heap.size YM.toArray):=fun W hW hWg ty dc sc=>by
  have:=arG (P:=Tryz.prog) W 71 71 ty 106 19 w.heap.size ((i+1)*19) (n+1-(i+1)) dc ⟨g,i*19,none⟩ (n-i) sc Il 106 (xs.drop (i*19)) Tryz.underlying71 an9 hW
   (by rw[CQ,show Nat.min (n-i) (n+1-(i+1))=n-i by simp only[Nat.min_def];split<;>omega])
   (fun j u hj=>by rw[hga,World.cell?_of_block (w:=w) (a:=⟨g,_,none⟩) hWg];exact hxa _ u (by rwa [List.getElem?_drop]at hj))
   (by rw[CQ,agl,Nat.sub_mul];omega) (fun u hu=>hx1 u (List.mem_of_mem_drop hu))
  rw[←acu]at this;exact this
 have hfin:YM.toArray.size=G*19∧YM.toArray.toList.take ((n+1)*19)=xs.take (i*19)++new++xs.drop (i*19):=by
  have e1:Il.take ((i+1)*19)=xs.take (i*19)++new:=by
   rw[aao,hR1,List.take_append_of_le_length aBE,List.take_of_length_le aBE]
  have e3:YM.length=G*19:=by
   rw[acu,List.length_append,List.length_append,CQ,List.length_take,List.length_drop,agl,Nat.sub_mul];omega
  refine⟨by simpa using e3,?_⟩;rw[acu,e1];show List.take ((n+1)*19) (xs.take (i*19)++new++xs.drop (i*19)++_)=_;rw[List.take_append_of_le_length,List.take_of_length_le]
  ·exact ap1
  ·exact ap1
 have hGi:¬(G=i):=bQ;have hGim:¬(G=i+1):=bQ;have hci:¬(cap=i):=bQ;have hw1:IntKind.i64.wrap ((i:Int)+1)=(i:Int)+1:=X0;have hb1:(0:Int)≤(i:Int)+1:=bQ;have hin:i≤n:=bQ;have htn:((i:Int)+1).toNat=i+1:=bQ;have hb3:(i:Int)≤(n:Int):=bQ;have hb5:(i:Int)≤(n:Int)+1:=bQ;have hA1:=fun ty dc=>hcpA ((w.alloc (.cells R 106)).drew) rfl ty dc;have KG:=bW hfin;have HRB:=bW (show((((w.alloc (.cells R 106)).drew).setRow w.heap.size Il.toArray).drew).heap[w.heap.size]?=some (.cells Il.toArray 106 (0,0))from setRow_heap _ w.heap.size _ _ _ _ (heap_alloc_new w _));have HGB:=bW (show((((w.alloc (.cells R 106)).drew).setRow w.heap.size Il.toArray).drew).heap[g]?=w.heap[g]? from(setRow_other _ _ g _ bQ).trans (Below.heap_alloc w _ g hgl));clear hkk hik hold hG hR hRl hR1 aao agl acu hfin CQ hcl hxl hxa hg ha hca hxs hcs hz hz0 hii;go_enter Tryz.func46,Tryz.ntmps46;go_wp2_with (first
  |(at_builtin;refine Lib.wpList_append_run _ rfl _ _ _ _ rfl _ _ rfl rfl _ _ (hrz _) ?_)
  |(simp only[hA1]))
 go_region_law_o (refine aEq rfl _ _ 71 71 rfl (.slice (some ⟨w.heap.size,(i+1)*19,none⟩) (n+1-(i+1)) (G-(i+1))) (.slice (some ⟨g,i*19,none⟩) (n-i) (cap-i)) acN acN (hcpB _ HRB.out HGB.out 3 (G-(i+1)) (cap-i)) ?_)
 go_wp2;go_ret
 refine⟨_,rfl,⟨?_,.inr ⟨w.heap.size,G,YM.toArray,rfl,hB,setRow_heap _ w.heap.size _ _ _ _ HRB.out,hGn,hGm,KG.out.1,KG.out.2⟩⟩,?_,.inr fun b hb=>ao9⟩
 ·exact aBG
 ·refine⟨rfl,rfl,rfl,by simp[World.setRow],fun k hk ne=>?_⟩;have hne:k≠w.heap.size:=bQ;rw[setRow_other _ _ k _ hne];exact(setRow_other _ _ k _ hne).trans (Below.heap_alloc w _ k hk)
theorem aKT(B:Nat)(v:Value)(n i:Nat)(xs new:List Value)(ad c:Nat)(QK:Array Value)(w:World)(hn:n<8)(hi:i≤n)(hB:B≤w.heap.size)(hown:w.ownsRow B 106 19 v n xs)(hx1:∀ u∈xs,u.oneCell'=true)
  (had:v.ownBlock≠some ad) (ha:w.heap[ad]?=some (.cells QK 106 (0,0))) (hca:QK.toList=new) (hl:new.length=19) (h1:∀ u∈new,u.oneCell'=true) :
  Calls Tryz.prog 46 #[v,aU i,.slice (some ⟨ad,0,none⟩) 1 c] w fun e w'=>∃ v',e=.returned v'∧w'.ownsRow B 106 19 v' (n+1) (xs.take (i*19)++new++xs.drop (i*19))∧w.grownBy w' v.ownBlock∧(v'.ownBlock=v.ownBlock∨∀ b,v'.ownBlock=some b→w.heap.size≤b):=by
 have hc:∀ j u,new[j]?=some u→w.cell? ⟨ad,j,none⟩=some u:=fun j u hj=>by
  rw[cell_of_row w ad j QK 106 (0,0) ha];rw[←hca]at hj;simpa using hj
 by_cases he:i=n
 ·subst he;have e1:xs.take (i*19)=xs:=List.take_of_length_le (by rw[hown.1];omega);have e2:xs.drop (i*19)=[]:=List.drop_eq_nil_of_le (by rw[hown.1];omega);rw[e1,e2,List.append_nil];exact aNi B v i xs new ad c w hn hB hown hl hc h1
 ·rcases hown.2 with ⟨rfl,rfl⟩|⟨g,cap,cur,rfl,hbg,hg,hcap,hmax,hcs,hxs⟩
  ·omega
  ·have aey:ad≠g:=fun e=>had (by rw[e];rfl);by_cases hr:n+1≤cap
   ·exact aNj B g n cap i cur xs new ad c QK w hn bQ hr hmax hbg hg hcs hxs hl hx1 aey ha hca h1
   ·exact aNl B g n cap i cur xs new ad c QK w hn bQ bQ hcap hB hg hcs hxs hl hx1 ha hca h1
end Go.Proofs.YtglilddlhibogaaGreatDoor.W
namespace Go.Proofs.YtglilddlhibogaaGreatDoor.P
open Go.RowKit
def kl(k:Int):Int:=if k=1 then 110 else if k=2 then 116 else if k=3 then 102 else if k=4 then 99 else 0
def amI(v:Val)(k:Nat):Value:=if k=0 then .int .u8 (kl v.kind)else aU (if k=1 then v.n else v.cell)
theorem ar6(v:Val):amI v 0=.int .u8 (kl v.kind):=rfl
theorem ar7(v:Val):amI v 1=aU v.n:=rfl
theorem ar8(v:Val):amI v 2=aU v.cell:=rfl
def dM.at_(M:dM)(r:Nat):Val:=if r<11 then M.regs r else M.slots (r-11)
def kZ(told:Nat→Int)(time num st:Int)(out:Value)(M:dM):Nat→Value:=fun j =>
 if j<81 then amI (M.at_ (j/3)) (j%3)else if j<89 then aU (told (j-81))else if j=89 then aU num
 else if j<106 then aU (M.cells (j-90))else if j=106 then out else if j=107 then aU st else aU time
variable{told:Nat→Int}{time num st:Int}{out:Value}{M:dM}
theorem vX{r k j:Nat}(hr:r<27)(hk:k<3)(hj:j=r*3+k):kZ told time num st out M j=amI (M.at_ r) k:=by
 subst hj;unfold kZ;exact ay3
theorem VO{r:Nat}(hr:r<11):M.at_ r=M.regs r:=dB hr
theorem aHF{r j:Nat}(hr:r<8)(hj:j=81+r):kZ told time num st out M j=aU (told r):=by
 subst hj;unfold kZ;rw[dw bQ,dB bQ,show 81+r-81=r by omega]
theorem ay4{r j:Nat}(hr:r<16)(hj:j=90+r):kZ told time num st out M j=aU (M.cells r):=by
 subst hj;unfold kZ;rw[dw bQ,dw bQ,dw bQ,dB bQ,show 90+r-90=r by omega]
theorem Img.ay5{w:World}{b:Nat}(h:Img w b 109 (kZ told time num st out M)){M':dM}{r i0 i1 i2:Nat}(hr:r<27)(v:Val)(e0:i0=r*3)(e1:i1=r*3+1)(e2:i2=r*3+2)
  (hv:M'.at_ r=v) (ho:∀ i,i<27→i≠r→M'.at_ i=M.at_ i) (hc:M'.cells=M.cells) :
  Img (((w.setCell ⟨b,i0,none⟩ (.int .u8 (kl v.kind))).setCell ⟨b,i1,none⟩ (aU v.n)).setCell ⟨b,i2,none⟩ (aU v.cell)) b 109 (kZ told time num st out M'):=by
 subst e0 e1 e2;refine(((h.set (j:=r*3) bQ _).set (j:=r*3+1) bQ _).set (j:=r*3+2) bQ _).congr fun j hj=>?_;by_cases h2:j=r*3+2
 ·rw[vX hr (bQ:2<3) h2,h2,upd_same,hv];rfl
 by_cases h1:j=r*3+1
 ·rw[vX hr (bQ:1<3) h1,fB h2,h1,upd_same,hv];rfl
 by_cases h0:j=r*3
 ·rw[vX hr (bQ:0<3) bQ,fB h2,fB h1,h0,upd_same,hv];rfl
 refine amJ ?_;unfold kZ;rw[hc];by_cases hl:j<81
 ·rw[dB hl,dB hl,ho (j/3) bQ bQ]
 ·rw[dw hl,dw hl]
theorem Img.Dp{w:World}{b:Nat}(h:Img w b 109 (kZ told time num st out M)){r i0 i1 i2:Nat}(hr:r<11)(v:Val)(e0:i0=r*3)(e1:i1=r*3+1)(e2:i2=r*3+2) :
  Img (((w.setCell ⟨b,i0,none⟩ (.int .u8 (kl v.kind))).setCell ⟨b,i1,none⟩ (aU v.n)).setCell ⟨b,i2,none⟩ (aU v.cell)) b 109 (kZ told time num st out { M with regs:=upd M.regs r v}):=by
 refine h.ay5 (M':={ M with regs:=upd M.regs r v}) bQ v e0 e1 e2 ?_ (fun i _ hi=>?_) rfl
 ·unfold dM.at_;rw[dB hr];exact upd_same _ _ _
 ·unfold dM.at_;split
  ·exact fB hi
  ·rfl
theorem Img.aHG{w:World}{b:Nat}(h:Img w b 109 (kZ told time num st out M)){r i0 i1 i2:Nat}(hr:r<16)(v:Val)(e0:i0=(11+r)*3)(e1:i1=(11+r)*3+1)(e2:i2=(11+r)*3+2) :
  Img (((w.setCell ⟨b,i0,none⟩ (.int .u8 (kl v.kind))).setCell ⟨b,i1,none⟩ (aU v.n)).setCell ⟨b,i2,none⟩ (aU v.cell)) b 109 (kZ told time num st out { M with slots:=upd M.slots r v}):=by
 refine h.ay5 (M':={ M with slots:=upd M.slots r v}) bQ v e0 e1 e2 ?_ (fun i _ hi=>?_) rfl
 ·unfold dM.at_;rw[dw bQ,show 11+r-11=r by omega];exact upd_same _ _ _
 ·unfold dM.at_;split
  ·rfl
  ·exact fB bQ
theorem Img.ay6{w:World}{b:Nat}(h:Img w b 109 (kZ told time num st out M)){r i:Nat}(hr:r<11)(n:Int)(e:i=r*3+1) :
  Img (w.setCell ⟨b,i,none⟩ (aU n)) b 109 (kZ told time num st out { M with regs:=upd M.regs r ⟨(M.regs r).kind,n,(M.regs r).cell⟩}):=by
 subst e;refine(h.set (j:=r*3+1) bQ _).congr fun j hj=>?_;have hv:({ M with regs:=upd M.regs r ⟨(M.regs r).kind,n,(M.regs r).cell⟩}:dM).at_ r=⟨(M.regs r).kind,n,(M.regs r).cell⟩:=by unfold dM.at_;rw[dB hr];exact upd_same _ _ _
 by_cases h1:j=r*3+1
 ·rw[vX (bQ:r<27) (bQ:1<3) h1,h1,upd_same,hv];rfl
 rw[fB h1];by_cases h2:j=r*3+2
 ·rw[vX (bQ:r<27) (bQ:2<3) h2,vX (bQ:r<27) (bQ:2<3) h2,hv,VO hr];rfl
 by_cases h0:j=r*3
 ·rw[vX (bQ:r<27) (bQ:0<3) bQ,vX (bQ:r<27) (bQ:0<3) bQ,hv,VO hr];rfl
 unfold kZ;simp only;by_cases hl:j<81
 ·rw[dB hl,dB hl];congr 1
  unfold dM.at_;split
  ·exact(fB bQ).symm
  ·rfl
 ·rw[dw hl,dw hl]
theorem Img.aHH{w:World}{b:Nat}(h:Img w b 109 (kZ told time num st out M))(v:Value)(l:List Int):Img (w.setCell ⟨b,106,none⟩ v) b 109 (kZ told time num st v { M with out:=l}):=by
 refine(h.set (j:=106) bQ v).congr fun j hj=>?_;by_cases h0:j=106
 ·exact amK
 rw[fB h0];unfold kZ dM.at_;simp only;exact apm
theorem Img.aHI{w:World}{b:Nat}(h:Img w b 109 (kZ told time num st out M))(n:Int):Img (w.setCell ⟨b,89,none⟩ (aU n)) b 109 (kZ told time n st out M):=by
 refine(h.set (j:=89) bQ _).congr fun j hj=>?_;by_cases h0:j=89
 ·exact amK
 rw[fB h0];unfold kZ;exact apm
theorem Img.aFG{w:World}{b:Nat}(h:Img w b 109 (kZ told time num st out M))(n:Int):Img (w.setCell ⟨b,107,none⟩ (aU n)) b 109 (kZ told time num n out M):=by
 refine(h.set (j:=107) bQ _).congr fun j hj=>?_;by_cases h0:j=107
 ·exact amK
 rw[fB h0];unfold kZ;exact apm
theorem Img.aHJ{w:World}{b:Nat}(h:Img w b 109 (kZ told time num st out M)){r:Nat}(hr:r<16)(n:Int):Img (w.setCell ⟨b,90+r,none⟩ (aU n)) b 109 (kZ told time num st out { M with cells:=upd M.cells r n}):=by
 refine(h.set (j:=90+r) bQ _).congr fun j hj=>?_;by_cases h0:j=90+r
 ·rw[ay4 hr h0,h0,upd_same];simp only;rw[upd_same]
 rw[fB h0];unfold kZ dM.at_;simp only;repeat' split
 all_goals first|rfl|omega|(rw[fB bQ])
end Go.Proofs.YtglilddlhibogaaGreatDoor.P
namespace Go.Proofs.YtglilddlhibogaaGreatDoor.P
open Go.RowKit
def sG(v:Val):Prop:=In64 v.n∧(v.kind=1→v.cell=0)
def AX(M:dM):Prop:=(∀ r,sG (M.regs r))∧(∀ s,sG (M.slots s))∧(∀ c,In64 (M.cells c))
theorem sG.none:sG Val.none:=⟨AL,fun h=>by simp[Val.none]at h⟩
theorem sG.num{n:Int}(h:In64 n):sG (.num n):=⟨h,fun _=>rfl⟩
theorem sG.upd{f:Nat→Val}(h:∀ r,sG (f r))(i:Nat){v:Val}(hv:sG v):∀ r,sG (upd f i v r):=by
  exact azG
theorem AX.load{M:dM}(h:AX M){told:Nat→Int}(ht:∀ r,In64 (told r))(v:Val)(o:Int):sG (M.load told v o).1:=by
  unfold dM.load;split
  · exact sG.none
  split
  · exact sG.num (ht _)
  split
  · exact sG.num (h.2.2 _)
  split
  · exact sG.none
  · exact h.2.1 _
theorem AX.second{M:dM}(h:AX M)(t:Step)(hn:In64 t.num):sG (M.second t):=by
  unfold dM.second;split
  · exact h.1 _
  · exact sG.num hn
theorem AX.store{M:dM}(h:AX M)(v:Val)(o:Int){x:Val}(hx:sG x):AX (M.store v o x).1:=by
  unfold dM.store;repeat' split
  all_goals first
    |exact h
    |exact⟨h.1,sG.upd h.2.1 _ hx,h.2.2⟩
    | (refine ⟨h.1, h.2.1, fun c => ?_⟩
       simp only
       by_cases e:c=(v.cell*4+(far v o).1).toNat
       · rw[e,upd_same];exact hx.1
       · rw[fB e];exact h.2.2 c)
theorem AX.call{M:dM}(h:AX M){time:Int}(ht:In64 time)(n:Int):AX (M.call time n).1:=by
  unfold dM.call;split
  · exact h
  split
  · exact h
  refine⟨fun r=>?_,h.2⟩;simp only;split
  · split
    · split
      · exact⟨AL,by simp⟩
      · exact sG.num AL
    · split
      · exact sG.num ht
      · exact sG.num AL
  split
  · exact sG.none
  · exact h.1 r
theorem sG.counts{a b:Val}(ha:sG a)(hb:sG b)(c:Int):sG (qM c a b).1:=by
  unfold qM;split
  · exact sG.none
  split
  · exact hb
  split
  · exact sG.num (Yx ha.1 hb.1)
  split
  · rename_i h1 h2 h3 h4;exact⟨(show In64 (does 2 b.n a.n)from Yx hb.1 ha.1),fun k=>absurd ⟨h4.2,k⟩ h3⟩
  split
  · exact sG.none
  · rename_i h1 h2 h3 h4 h5;exact⟨(show In64 (does c a.n b.n)from Yx ha.1 hb.1),ha.2⟩
theorem AX.agw{M:dM}(h:AX M)(r:Nat){v:Val}(hv:sG v):AX { M with regs:=Go.Proofs.YtglilddlhibogaaGreatDoor.P.upd M.regs r v}:=⟨sG.upd h.1 _ hv,h.2⟩
theorem AX.init{cells:Nat→Int}(h:∀ c,In64 (cells c)):AX (dM.init cells):=by
  refine⟨fun r=>?_,fun s=>sG.none,h⟩;unfold dM.init;simp only;split
  · exact⟨AL,by simp⟩
  split
  · exact⟨AL,by simp⟩
  · exact sG.none
theorem asi{M M':dM}{told:Nat→Int}{time pc nx:Int}{t:Step}(hO:Ak M)(hN:AX M)(ht:∀ r,In64 (told r))(hm:In64 time)(hn:In64 t.num)(h:M.step told time t pc=.go M' nx):Ak M'∧AX M':=by
  unfold dM.step at h;split at h
  · exact as5
  split at h
  · cases h;exact⟨hO,hN⟩
  split at h
  · split at h
    · cases h
    · split at h
      · cases h;exact⟨hO,hN⟩
      · cases h;exact⟨hO,hN⟩
  split at h
  · split at h
    · cases h
    · cases h;exact⟨hO.agw _ (hO.load _ _ _),hN.agw _ (hN.load ht _ _)⟩
  split at h
  · split at h
    · cases h
    · cases h;exact⟨hO.store _ _ (hO.second _),hN.store _ _ (hN.second _ hn)⟩
  split at h
  · split at h
    · cases h
    · cases h;exact⟨hO.call _ _,hN.call hm _⟩
  · have hb1:oJ (if t.code=13 then Val.num 0 else M.second t):=by split;exact oJ.num 0;exact hO.second _
    have hb2:sG (if t.code=13 then Val.num 0 else M.second t):=by split;exact sG.num AL;exact hN.second _ hn
    simp only at h;generalize (if t.code=13 then Val.num 0 else M.second t)=x at h hb1 hb2;split at h
    · cases h
    · cases h;exact⟨hO.agw _ ((hO.1 _).counts hb1 _),hN.agw _ ((hN.1 _).counts hb2 _)⟩
theorem step_next{M M':dM}{told:Nat→Int}{time pc nx:Int}{t:Step}(h:M.step told time t pc=.go M' nx):t.code≠28∧(nx=pc+1∨(t.leads∧nx=pc+1+t.off)):=by
  unfold dM.step at h;split at h
  · exact as5
  rename_i h28;refine⟨h28,?_⟩;unfold Step.leads;split at h
  · rename_i h1;cases h;exact .inr ⟨.inl h1,rfl⟩
  split at h
  · rename_i h1 h2;split at h
    · cases h
    · split at h
      · cases h;exact .inr ⟨.inr h2,rfl⟩
      · cases h;exact .inl rfl
  split at h
  · exact apD
  split at h
  · exact apD
  split at h
  · exact apD
  · simp only at h;generalize (if t.code=13 then Val.num 0 else M.second t)=x at h;exact apD
end Go.Proofs.YtglilddlhibogaaGreatDoor.P
namespace Go.Proofs.YtglilddlhibogaaGreatDoor.P
open Go.RowKit (wrap64)
def Ol(a b:Int):Int × Bool :=
  if(0<b∧a>9223372036854775807-b)∨(b<0∧a < -9223372036854775808-b)then(0,false)else(wrap64 (a+b),true)
def Om(a b:Int):Int × Bool :=
  if(0<b∧a < -9223372036854775808+b)∨(b<0∧a>9223372036854775807+b)then(0,false)else(wrap64 (a-b),true)
theorem aCF{a b:Int}(ha:In64 a)(hb:In64 b):Ol a b=if In64 (a+b)then(a+b,true)else(0,false):=by
  unfold Ol;by_cases h:In64 (a+b)
  · rw[dB h,dw U3,EH h]
  · rw[dw h,dB U3]
theorem aCG{a b:Int}(ha:In64 a)(hb:In64 b):Om a b=if In64 (a-b)then(a-b,true)else(0,false):=by
  unfold Om;by_cases h:In64 (a-b)
  · rw[dB h,dw U3,EH h]
  · rw[dw h,dB U3]
def aqM(a b:B):B :=
  if(Ol a.lo b.lo).2=true∧(Ol a.hi b.hi).2=true then⟨(Ol a.lo b.lo).1,(Ol a.hi b.hi).1⟩else fP
def aqN(a b:B):B :=
  if(Om a.lo b.hi).2=true∧(Om a.hi b.lo).2=true then⟨(Om a.lo b.hi).1,(Om a.hi b.lo).1⟩else fP
theorem aKm{a b:B}(ha:a.Ok)(hb:b.Ok):aqM a b=anU a b:=by
  rw[avn ha.in hb.in];unfold aqM;rw[aCF ha.1 hb.1,aCF ha.2.1 hb.2.1];by_cases h1:In64 (a.lo+b.lo)<;>by_cases h2:In64 (a.hi+b.hi)<;>simp[h1,h2]
theorem aKn{a b:B}(ha:a.Ok)(hb:b.Ok):aqN a b=anV a b:=by
  rw[avo ha.in hb.in];unfold aqN;rw[aCG ha.1 hb.2.1,aCG ha.2.1 hb.1];by_cases h1:In64 (a.lo-b.hi)<;>by_cases h2:In64 (a.hi-b.lo)<;>simp[h1,h2]
def af8(c:Int)(a b:B):B :=
  if(0≤a.lo∧0≤b.lo)∧0<b.lo then(if c=5 then⟨a.lo/b.hi,a.hi/b.lo⟩else⟨0,min a.hi (b.hi-1)⟩)else if 0≤a.lo∧0≤b.lo then⟨0,a.hi⟩else fP
theorem akd(c:Int)(a b:B):af8 c a b=bdiv c a b:=by
  unfold af8 bdiv;by_cases h1:a.lo<0∨b.lo<0
  · rw[dB h1,dw bQ,dw bQ]
  · rw[dw h1];by_cases h2:b.lo=0
    · rw[dB h2,dw bQ,dB bQ]
    · rw[dw h2,dB bQ]
def akw(a b:B):B :=
  if 0≤b.lo then⟨0,min (if 0≤a.lo then a.hi else 9223372036854775807) b.hi⟩else if 0≤a.lo then⟨0,a.hi⟩else fP
theorem aqw{a b:B}(hb:b.Ok):akw a b=sQ 7 a b:=by
  unfold akw sQ;by_cases h1:0≤a.lo<;>by_cases h2:0≤b.lo
  · simp[h1,h2]
  · simp[h1,h2]
  · have:=hb.2.1;unfold In64 at this;have e:min 9223372036854775807 b.hi=b.hi:=bQ;simp[h1,h2,e]
  · have:a.lo<0:=by omega
    simp[h1,h2,this]
def ap3(a b:B):B:=if 0≤a.lo∧0≤b.lo then⟨max a.lo b.lo,fill (max a.hi b.hi)⟩else fP
def ap2(a b:B):B:=if 0≤a.lo∧0≤b.lo then⟨0,fill (max a.hi b.hi)⟩else fP
theorem aAq(a b:B):ap3 a b=sQ 8 a b:=by
  unfold ap3 sQ;exact aAN
theorem aAo(a b:B):ap2 a b=sQ 9 a b:=by
  unfold ap2 sQ;exact aAN
theorem aCH(a b:Int):does 10 a b=wrap64 (a*2^sh b):=by
  show wrap64 (u a*2^sh b)=_;exact akv (asT _ _)
theorem aKo(a b:Int):does 11 a b=wrap64 (u a/2^sh b):=rfl
theorem akF(a b:Int):does 12 a b=a/2^sh b:=rfl
def rk(b:B):Int:=(sh b.lo:Int)
theorem aKp(x:Int):sh (sh x:Int)=sh x:=by have:=adw x;unfold sh at *;omega
theorem aqO(b:B):sh (rk b)=sh b.lo:=aKp _
def akG(a b:B):B :=
  if b.lo=b.hi∧does 12 (does 10 a.lo (rk b)) (rk b)=a.lo∧does 12 (does 10 a.hi (rk b)) (rk b)=a.hi then⟨does 10 a.lo (rk b),does 10 a.hi (rk b)⟩else fP
theorem aqP(a b:B):akG a b=dV 10 a b:=by
  show _=if b.lo≠b.hi then fP else KY a (sh b.lo);unfold akG KY;rw[akF,akF,aCH,aCH,aqO];by_cases h:b.lo=b.hi
  · rw[dw (not_not_intro h)];by_cases h1:wrap64 (a.lo*2^sh b.lo)/2^sh b.lo=a.lo<;>by_cases h2:wrap64 (a.hi*2^sh b.lo)/2^sh b.lo=a.hi<;>simp[h]
    all_goals (rw[←h];simp[h1,h2])
  · rw[dB h,dw (fun x=>h x.1)]
theorem aKq(j:Nat):(18446744073709551615:Int)/2^(j+1)=9223372036854775807/2^j:=by
  have h:(18446744073709551615:Int)/2=9223372036854775807:=bQ;rw[Int.pow_succ,Int.mul_comm,←Int.ediv_ediv_of_nonneg (show(0:Int)≤2 by omega),h]
theorem aKr:In64 9223372036854775807:=aaq
theorem aKs:u (-1)=18446744073709551615:=by unfold u;decide
theorem aKt{k:Nat}(h0:k≠0):wrap64 (18446744073709551615/2^k)=9223372036854775807/2^(k-1):=by
  have hk:k=(k-1)+1:=bQ;generalize k-1=j at *;subst hk;rw[aKq];exact EH (acR aKr _)
theorem aKu{k:Nat}(h0:k≠0):wrap64 (u (-1)/2^k)=9223372036854775807/2^(k-1) :=
  (congrArg (fun n=>wrap64 (n/2^k)) aKs).trans (aKt h0)
def agb(a b:B):B :=
  if b.lo=b.hi∧rk b=0 then a else if b.lo=b.hi∧0≤a.lo then⟨does 12 a.lo (rk b),does 12 a.hi (rk b)⟩
  else if b.lo=b.hi then⟨0,does 11 (-1) (rk b)⟩else if 0≤a.lo then⟨0,a.hi⟩else fP
theorem anE(a b:B):agb a b=Fp a b:=by
  unfold agb Fp;rw[akF,akF,aqO];have hk:rk b=0↔sh b.lo=0:=by unfold rk;omega
  by_cases h:b.lo=b.hi
  · rw[dw (show¬b.lo≠b.hi from not_not_intro h)];by_cases h0:sh b.lo=0
    · rw[dB h0,dB ⟨h,hk.2 h0⟩]
    · rw[dw h0,dw (fun x=>h0 (hk.1 x.2))];by_cases h1:0≤a.lo
      · rw[dB ⟨h,h1⟩,dB h1]
      · rw[dw (show¬(b.lo=b.hi∧0≤a.lo)from fun x=>h1 x.2),dB h,dw h1];rw[aKo,aqO,aKu h0]
  · rw[dB h,dw (fun x=>h x.1),dw (fun x=>h x.1),dw h]
def aj7(a b:B):B :=
  if b.lo=b.hi then⟨does 12 a.lo (rk b),does 12 a.hi (rk b)⟩else if 0≤a.lo then⟨0,a.hi⟩else if a.hi<0 then⟨a.lo,-1⟩else a
theorem apX(a b:B):aj7 a b=Ir a b:=by
  unfold aj7 Ir;rw[akF,akF,aqO]
def aqx(a:B):B:=if -9223372036854775808<a.lo then⟨-a.hi,-a.lo⟩else fP
theorem aB1{a b:B}(ha:a.Ok):aqx a=dV 13 a b:=by
  show _=if a.lo=-9223372036854775808 then fP else⟨-a.hi,-a.lo⟩;unfold aqx;have:=ha.1;unfold In64 at this;by_cases h:a.lo=-9223372036854775808
  · rw[dB h,dw bQ]
  · rw[dw h,dB bQ]
end Go.Proofs.YtglilddlhibogaaGreatDoor.P
namespace Go.Proofs.YtglilddlhibogaaGreatDoor.W
open Go.RowKit Go.Sort
section
variable{P:Program}{ops:Array Oper}{md:Region.Mode}{C:World→Prop}{Q':Exit→Act→World→Prop}
def aeF(md:Region.Mode)(ops:Array Oper):List Nat→Array Bool→Bool
 |[],listed=>(Region.ready md ops listed).isEmpty
 |k::r,listed=>decide (Region.ready md ops listed=[k])&&aeF md ops r (listed.setIfInBounds k true)
theorem ays:∀ (t:List Nat) (l:List Oper) (listed:Array Bool) (a:Act) (w:World),t.map (fun i=>ops[i]?)=l.map some→aeF md ops t listed=true→wpList P ops Q' l a w→wpAny P md ops Q' l.length listed a w
 |[],[],_,_,_,_,hB,h=>⟨by simpa[aeF]using hB,h⟩
 |[],_::_,_,_,_,hl,_,_=>by simp at hl
 |_::_,[],_,_,_,hl,_,_=>by simp at hl
 |k::t,o::l,listed,a,w,hl,hB,h=>by
  simp only[List.map_cons,List.cons.injEq]at hl;simp only[aeF,Bool.and_eq_true,decide_eq_true_eq]at hB;refine⟨fun h1=>(by rw[hB.1]at h1;cases h1),fun i hi=>?_⟩;rw[hB.1]at hi;have hik:i=k:=amD;subst hik;have hw:wpOp P ops Q' i (wpList P ops Q' l) a w:=by unfold wpOp;simp only[hl.1];exact h
  exact wpOp_mono (fun a' w' h'=>ays t l _ a' w' hl.2 hB.2 h') hw
def amE(md:Region.Mode)(ops:Array Oper)(k:Nat)(t:List Nat):List Nat→Array Bool→Bool
 |[],listed=>aeF md ops (k::t) listed
 |i::r,listed=>i !=k&&(Region.ready md ops listed).contains i&&Region.free md ops listed i&&(ag7 ops i||needs md ops 3 k i)&&amE md ops k t r (listed.setIfInBounds i true)
theorem ayt{k n:Nat}{t:List Nat}{Lq:Act→Prop}(hsel:Region.noSelect ops=true)(hQ:∀ c a w d v,Q' (.panic c) (a.put d v) w→Q' (.panic c) a w)
  (hfin:∀ listed a,aeF md ops (k::t) listed=true→Lq a→acS P md ops C Q' k n listed a) :
  ∀ (r:List Nat) (l:List Oper) (listed:Array Bool) (a:Act),r.map (fun i=>ops[i]?)=l.map some→Closed md ops listed→amE md ops k t r listed=true→wpQuiet P ops C Lq l a→acS P md ops C Q' k (r.length+n) listed a
 |[],[],listed,a,_,_,hB,h=>by
  rw[List.length_nil,Nat.zero_add];exact hfin listed a hB h
 |[],_::_,_,_,hl,_,_,_=>by simp at hl
 |_::_,[],_,_,hl,_,_,_=>by simp at hl
 |i::r,o::l,listed,a,hl,hcl,hB,h=>by
  simp only[List.map_cons,List.cons.injEq]at hl;obtain⟨h0,hl⟩:=hl;simp only[amE,Bool.and_eq_true,Bool.or_eq_true,bne_iff_ne,ne_eq]at hB;obtain⟨⟨⟨⟨hik,hr⟩,hf⟩,hw⟩,hB'⟩:=hB;have hr':i∈Region.ready md ops listed:=amF;have hst:qOp P ops C i (wpQuiet P ops C Lq l) a:=asU;obtain⟨v,hy,hK⟩:=yieldsIn_of_qOp h0 hst;rw[show(i::r).length+n=(r.length+n)+1 by simp only[List.length_cons];omega];exact ayu h0 (Region.noSelect_spec hsel) (fun c a w=>hQ c a w _ _) hik hw _ listed a hcl (Region.free_spec h0 hf) hr' hy
   (ayt hsel hQ hfin r l _ _ hl (hcl.set hr') hB' hK)
def Y5(l:List Oper)(r:List Nat):List Oper:=r.filterMap fun i=>l[i]?
theorem aph{l:List Oper}:∀ {r:List Nat},r.all (fun i=>decide (i<l.length))=true→r.map (fun i=>l.toArray[i]?)=(Y5 l r).map some
 |[],_=>rfl
 |i::r,h=>by
  simp only[List.all_cons,Bool.and_eq_true,decide_eq_true_eq]at h;unfold Y5;rw[List.filterMap_cons,List.getElem?_eq_getElem h.1];simp only[List.map_cons];rw[aph h.2];simp[Y5,h.1]
theorem aHk{l:List Oper}{r:List Nat}(h:r.all (fun i=>decide (i<l.length))=true):(Y5 l r).length=r.length:=by
 have:=congrArg List.length (aph h);simpa using this.symm
theorem aHl{id:Nat}{a:Act}{w:World}{l:List Oper}(r:List Nat)(k:Nat)(t:List Nat)(hm:P.follows .mixedOrders=true)
  (hB:(Region.noSelect l.toArray&&r.all (fun i=>decide (i<l.length))&&(k::t).all (fun i=>decide (i<l.length))&&decide (r.length+(t.length+1)=l.length)&&amE .any l.toArray k t r (Array.replicate l.length false))=true)
  (hQ:∀ c a w d v,Q' (.panic c) (a.put d v) w→Q' (.panic c) a w) (hC:C { w with drawn:=w.drawn+1})
  (h:wpQuiet P l.toArray C (fun a'=>∀ w',C w'→wpList P l.toArray Q' (Y5 l (k::t)) a' w') (Y5 l r) a):(Code.region id l.toArray true).wp P Q' a w:=by
 simp only[Bool.and_eq_true,decide_eq_true_eq]at hB;obtain⟨⟨⟨⟨hsel,hr⟩,ht⟩,hlen⟩,hlex⟩:=hB;refine wp_region_any hm ?_;have H:=ayt (P:=P) (C:=C) (Q':=Q') (md:=.any) (ops:=l.toArray) (k:=k) (t:=t) (n:=t.length+1) hsel hQ (fun listed a' hs hL=>by
  have hs':=hs
  simp only[aeF,Bool.and_eq_true,decide_eq_true_eq]at hs'
  refine⟨by rw[hs'.1];simp,fun i hi=>?_⟩
  rw[hs'.1]at hi
  have hik:i=k:=amD
  subst hik
  refine⟨fun _ w' hw'=>?_,fun hne=>absurd rfl hne⟩
  have:=ays (md:=.any) (Q':=Q') (i::t) (Y5 l (i::t)) listed a' w' (aph ht) hs (hL w' hw')
  rw[aHk ht,List.length_cons]at this
  exact this.2 i (by rw[hs'.1];simp)) r (Y5 l r) (Array.replicate l.length false) a (aph hr) (fun j oj _ hl=>by rw[getD_replicate_false]at hl;cases hl) hlex h
 have:=asV _ _ _ _ hC H;rw[hlen]at this;simpa using this
theorem aF8{id:Nat}{a:Act}{w:World}{l:List Oper}(r:List Nat)(k:Nat)(t:List Nat)(hm:P.follows .mixedOrders=true)
  (hB:(Region.noSelect l.toArray&&r.all (fun i=>decide (i<l.length))&&(k::t).all (fun i=>decide (i<l.length))&&decide (r.length+(t.length+1)=l.length)&&amE .any l.toArray k t r (Array.replicate l.length false))=true)
  (h:wpQuiet P l.toArray (fun w'=>∃ p:Regrown,w'=grow (redrawn w p.d) p.os) (fun a'=>∀ w',(∃ p:Regrown,w'=grow (redrawn w p.d) p.os)→wpList P l.toArray (NoPanic Q') (Y5 l (k::t)) a' w') (Y5 l r) a):(Code.region id l.toArray true).wp P Q' a w :=
 wp_region_noPanic (aHl (C:=fun w'=>∃ p:Regrown,w'=grow (redrawn w p.d) p.os) r k t hm hB (fun _ _ _ _ _ h=>h) ⟨⟨w.drawn+1,#[]⟩,by rw[grow_empty];rfl⟩ h)
end
end Go.Proofs.YtglilddlhibogaaGreatDoor.W
