/- A part of the proof; each theorem states its conditions. -/
import Derived.Test.YtglilddlhibogaaGreatDoorWalkBound3
import Derived.Test.YtglilddlhibogaaGreatDoorWalkRefB4d
import Derived.Test.YtglilddlhibogaaGreatDoorWalkCheck
import Derived.Test.YtglilddlhibogaaGreatDoorZZ5
import Derived.Deep.CutBlock
set_option linter.unusedSimpArgs false
set_option linter.unusedVariables false
set_option maxRecDepth 100000
set_option maxHeartbeats 100000000
namespace Go.Proofs.YtglilddlhibogaaGreatDoor.P
open Go.RowKit (wrap64)
structure Wh where
 kind:Int
 b:B
def Wh.nil:Wh:=⟨0,kK⟩
def Wh.num(b:B):Wh:=⟨1,b⟩
structure VS where
 regs:Nat→Wh
 slots:Nat→Wh
def iD(w:Wh)(off:Int):B × Int :=
 if w.kind=0 then(kK,8)else if w.kind=1∨w.kind=5 then(kK,1)
 else if(dV 2 w.b (eH off)).lo<low w.kind∨high w.kind<(dV 2 w.b (eH off)).hi then(kK,2)else(dV 2 w.b (eH off),0)
def wB(sl:Nat→Wh):Nat→Nat→B→Wh × Int
 |0,_,acc=>(Wh.num acc,0)
 |n+1,k,acc=>if(sl k).kind=0 then(Wh.nil,8)else if(sl k).kind≠1 then(Wh.nil,1)else wB sl n (k+1) (wU acc (sl k).b)
def VS.load(s:VS)(w:Wh)(off:Int):Wh × Int :=
 if(iD w off).2≠0 then(.nil,(iD w off).2)
 else if w.kind≠3 then(.num fP,0)
 else if(iD w off).1.lo=(iD w off).1.hi then(if(s.slots ((iD w off).1.lo+16).toNat).kind=0 then(.nil,8)else(s.slots ((iD w off).1.lo+16).toNat,0))
 else wB s.slots ((iD w off).1.hi-(iD w off).1.lo+1).toNat ((iD w off).1.lo+16).toNat (s.slots ((iD w off).1.lo+16).toNat).b
def VS.store(s:VS)(w:Wh)(off:Int)(x:Wh):VS × Int :=
 if(iD w off).2≠0 then(s,(iD w off).2)
 else if w.kind=2 then(s,6)else if x.kind=0 then(s,8)
 else if w.kind=4∧x.kind≠1 then(s,1)else if w.kind=4 then(s,0)
 else if(iD w off).1.lo≠(iD w off).1.hi then(s,2)
 else({ s with slots:=upd s.slots ((iD w off).1.lo+16).toNat x},0)
def VS.second(s:VS)(t:Step):Wh:=if t.reg then s.regs t.src.toNat else .num (eH t.num)
def VS.operand(s:VS)(t:Step):Wh:=if t.code=13 then .num (eH 0)else s.second t
def Wy(c:Int)(a b:Wh):Wh × Int :=
 if b.kind≠1∨a.kind=5∨(c≠2∧c≠3)then(.nil,1)
 else if dV c a.b b.b=fP then(.nil,2)else(⟨a.kind,dV c a.b b.b⟩,0)
def qJ(c:Int)(a b:Wh):Wh × Int :=
 if b.kind=0∨(a.kind=0∧c≠1)then(.nil,8)
 else if c=1 then(b,0)
 else if a.kind=1∧b.kind=1 then(.num (dV c a.b b.b),0)
 else if c=2∧a.kind=1 then Wy c b a else Wy c a b
def VS.call(s:VS)(n:Int):VS × Int :=
 if n≠2∧(s.regs 1).kind=0 then(s,8)else if n≠2∧(s.regs 1).kind≠1 then(s,1)
 else({ s with regs:=fun j=>if j=0 then(if n=1 then⟨5,eH 0⟩else if n=3 then .num (eH 0)else .num fP)else if 1≤j∧j≤5 then .nil else s.regs j},0)
inductive YR where
 |done (b:B)
 |err (e:Int)
 |go (x y:Option (VS × Int))
def VS.narrowed(s:VS)(t:Step)(x y:B):VS :=
 if t.reg then(if t.src=t.dst then s else { s with regs:=upd (upd s.regs t.src.toNat ⟨(s.regs t.src.toNat).kind,y⟩) t.dst.toNat ⟨(s.regs t.dst.toNat).kind,x⟩})
 else { s with regs:=upd s.regs t.dst.toNat ⟨(s.regs t.dst.toNat).kind,x⟩}
def VS.way(s:VS)(t:Step)(c:Int)(next:Int):Option (VS × Int) :=
 if(eX c (s.regs t.dst.toNat).b (s.second t).b).2.2 then some (s.narrowed t (eX c (s.regs t.dst.toNat).b (s.second t).b).1 (eX c (s.regs t.dst.toNat).b (s.second t).b).2.1,next)else none
def VS.gu(s:VS)(r:Int)(w:Wh):VS:={ s with regs:=upd s.regs r.toNat w}
def VS.asks(s:VS)(t:Step)(pc:Int):YR :=
 if(s.regs t.dst.toNat).kind=0∨(s.second t).kind=0 then .err 8
 else if(s.regs t.dst.toNat).kind=1∧(s.second t).kind=1 then .go (s.way t (NU t.code) (pc+1)) (s.way t t.code (pc+1+t.off))
 else if t.reg=true∨t.num≠0∨(t.code≠15∧t.code≠16)then .err 1
 else
  let there:=if t.code=16 then pc+1+t.off else pc+1
  let none':=if t.code=16 then pc+1 else pc+1+t.off
  if(s.regs t.dst.toNat).kind=5 then .go (some (s.gu t.dst (.num (eH 0)),none')) (some (s.gu t.dst ⟨4,eH 0⟩,there))else .go (some (s,there)) none
def VS.step(s:VS)(t:Step)(pc:Int):YR :=
 if t.code=28 then(if(s.regs 0).kind=1 then .done (s.regs 0).b else if(s.regs 0).kind=0 then .err 8 else .err 1)
 else if t.code=14 then .go (some (s,pc+1+t.off)) none
 else if 15≤t.code∧t.code≤24 then s.asks t pc
 else if t.code=25 then(if(s.load (s.regs t.src.toNat) t.off).2≠0 then .err (s.load (s.regs t.src.toNat) t.off).2 else .go (some (s.gu t.dst (s.load (s.regs t.src.toNat) t.off).1,pc+1)) none)
 else if t.code=26 then(if(s.store (s.regs t.dst.toNat) t.off (s.second t)).2≠0 then .err (s.store (s.regs t.dst.toNat) t.off (s.second t)).2 else .go (some ((s.store (s.regs t.dst.toNat) t.off (s.second t)).1,pc+1)) none)
 else if t.code=27 then(if(s.call t.num).2≠0 then .err (s.call t.num).2 else .go (some ((s.call t.num).1,pc+1)) none)
 else(if(qJ t.code (s.regs t.dst.toNat) (s.operand t)).2≠0 then .err (qJ t.code (s.regs t.dst.toNat) (s.operand t)).2 else .go (some (s.gu t.dst (qJ t.code (s.regs t.dst.toNat) (s.operand t)).1,pc+1)) none)
structure Wk where
 looks:Int
 ends:List B
def outOf:List B→B
 |[]=>kK
 |x::l=>l.foldl wU x
abbrev VR:=(Int × Int) × Wk
def rU(f:VS→Int→Wk→VR)(o:Option (VS × Int))(w:Wk):VR :=
 match o with
 |none=>((0,-1),w)
 |some x=>f x.1 x.2 w
def J3(r:VR)(f:Wk→VR):VR:=if r.1.1≠0 then r else f r.2
def J4(f:VS→Int→Wk→VR)(pc:Int)(w:Wk):YR→VR
 |.done b=>((0,-1),⟨w.looks,w.ends++[b]⟩)
 |.err e=>((e,pc),w)
 |.go x y=>J3 (rU f x w) (rU f y)
def iO(S:Nat→Step):Nat→VS→Int→Wk→VR
 |0,_,_,w=>((0,-1),w)
 |k+1,s,pc,w =>
  if 4000<w.looks+1 then((4,pc),⟨w.looks+1,w.ends⟩)
  else J4 (iO S k) pc ⟨w.looks+1,w.ends⟩ (s.step (S pc.toNat) pc)
def VS.init:VS:=⟨fun r=>if r=1 then⟨2,eH 0⟩else if r=10 then⟨3,eH 0⟩else .nil,fun _=>.nil⟩
def uo(S:Nat→Step)(n:Nat):VR:=iO S n VS.init 0 ⟨0,[]⟩
def verify(S:Nat→Step)(n:Nat):(Int × Int) × B :=
 if(check S n).1≠0 then(check S n,kK)else if(uo S n).1.1≠0 then((uo S n).1,kK)else((0,-1),outOf (uo S n).2.ends)
def iL(w:Wh):Prop:=(w.kind=0∨w.kind=1∨w.kind=2∨w.kind=3∨w.kind=4∨w.kind=5)∧w.b.Ok
def kG(s:VS):Prop:=(∀ r,iL (s.regs r))∧(∀ r,iL (s.slots r))
theorem aD9:kK.Ok:=by unfold kK B.Ok In64;simp
theorem iL.nil:iL .nil:=⟨.inl rfl,aD9⟩
theorem iL.num{b:B}(h:b.Ok):iL (.num b):=⟨.inr (.inl rfl),h⟩
theorem iL.upd{f:Nat→Wh}(h:∀ r,iL (f r))(i:Nat){v:Wh}(hv:iL v):∀ r,iL (upd f i v r):=by
 intro r;by_cases e:r=i
 ·subst e;rw[upd_same];exact hv
 ·rw[fB e];exact h r
theorem kG.gu{s:VS}(h:kG s)(r:Int){v:Wh}(hv:iL v):kG (s.gu r v):=⟨iL.upd h.1 _ hv,h.2⟩
theorem kG.aoC{s:VS}(h:kG s)(r:Nat){v:Wh}(hv:iL v):kG { s with regs:=P.upd s.regs r v}:=⟨iL.upd h.1 _ hv,h.2⟩
theorem kG.setSlot{s:VS}(h:kG s)(r:Nat){v:Wh}(hv:iL v):kG { s with slots:=P.upd s.slots r v}:=⟨h.1,iL.upd h.2 _ hv⟩
theorem N8:In64 0:=aaq
theorem kG.init:kG VS.init:=by
 refine⟨fun r=>?_,fun s=>iL.nil⟩;unfold VS.init;simp only;split
 ·exact⟨by simp,Dt N8⟩
 split
 ·exact⟨by simp,Dt N8⟩
 ·exact iL.nil
theorem aEa{a b:Int}(ha:In64 a)(h0:0≤a)(hb:0<b):In64 (a/b):=by
 have h1:=Int.ediv_nonneg h0 (Int.le_of_lt hb);have h2:=Int.ediv_le_self b h0;unfold In64 at *;omega
theorem avL{a b:Int}(ha:In64 a)(hb:In64 b):In64 (min a b):=U3
theorem arC{a b:Int}(ha:In64 a)(hb:In64 b):In64 (max a b):=U3
theorem avM{a b:B}(ha:a.In)(hb:b.In):(wU a b).In:=⟨avL ha.1 hb.1,arC ha.2 hb.2⟩
theorem arD{n:Int}(h:In64 n):(eH n).In:=⟨h,h⟩
theorem arE{n:Int}(h:small n=true):-2147483648≤n∧n≤2147483648:=by unfold small at h;simpa using h
theorem aMz(a b:B):(Oq a b).In:=by
 unfold Oq;split
 ·rename_i h;simp only[Bool.and_eq_true]at h;obtain⟨⟨⟨h1,h2⟩,h3⟩,h4⟩:=h;have h1:=arE h1;have h2:=arE h2;have h3:=arE h3;have h4:=arE h4;exact avM (avM (avM (arD (aji h1.1 h1.2 h3.1 h3.2)) (arD (aji h1.1 h1.2 h4.1 h4.2))) (arD (aji h2.1 h2.2 h3.1 h3.2))) (arD (aji h2.1 h2.2 h4.1 h4.2))
 ·exact aak
theorem aMA{c:Int}{a b:B}(ha:a.Ok)(hb:b.Ok):(dV c a b).In:=by
 unfold dV;split
 ·exact hb.in
 split
 ·rw[avn ha.in hb.in];split
  ·assumption
  ·exact aak
 split
 ·rw[avo ha.in hb.in];split
  ·assumption
  ·exact aak
 split
 ·exact aMz a b
 split
 ·unfold bdiv;split
  ·exact aak
  split
  ·exact⟨AL,ha.2.1⟩
  have:=ha.2.2;have:=hb.2.2;split
  ·exact⟨aEa ha.1 bQ bQ,aEa ha.2.1 bQ bQ⟩
  ·refine⟨AL,avL ha.2.1 ?_⟩;have:=hb.2.1;unfold In64 at *;omega
 split
 ·unfold sQ;split
  ·exact⟨AL,avL ha.2.1 hb.2.1⟩
  split
  ·exact⟨AL,ha.2.1⟩
  split
  ·exact⟨AL,hb.2.1⟩
  split
  ·exact aak
  split
  ·exact⟨arC ha.1 hb.1,auN (arC ha.2.1 hb.2.1)⟩
  ·exact⟨AL,auN (arC ha.2.1 hb.2.1)⟩
 split
 ·split
  ·exact aak
  ·unfold KY;split
   ·exact aak
   ·exact⟨aam _,aam _⟩
 split
 ·unfold Fp;split
  ·split
   ·exact⟨AL,ha.2.1⟩
   ·exact aak
  split
  ·exact ha.in
  split
  ·exact⟨acR ha.1 _,acR ha.2.1 _⟩
  ·exact⟨AL,acR aaq _⟩
 split
 ·unfold Ir;split
  ·exact⟨acR ha.1 _,acR ha.2.1 _⟩
  split
  ·exact⟨AL,ha.2.1⟩
  split
  ·exact⟨ha.1,by unfold In64;simp⟩
  ·exact ha.in
 split
 ·split
  ·exact aak
  ·rename_i h;obtain⟨h1,h2,h3⟩:=ha;refine⟨?_,?_⟩<;>unfold In64 at*<;> simp only<;>omega
 ·exact aak
theorem avN{c:Int}{a b:B}(ha:a.Ok)(hb:b.Ok):(dV c a b).Ok:=by
 have h:=aoO (c:=c) ha hb ⟨Int.le_refl a.lo,ha.2.2⟩ ⟨Int.le_refl b.lo,hb.2.2⟩;have hi:=aMA (c:=c) ha hb;exact⟨hi.1,hi.2,Int.le_trans h.1 h.2⟩
theorem amb{c:Int}{a b:B}(ha:a.Ok)(hb:b.Ok)(h:(eX c a b).2.2=true):(eX c a b).1.Ok∧(eX c a b).2.1.Ok :=
 ⟨(aDK ha hb h).1.ok ha,(aDK ha hb h).2.ok hb⟩
theorem apn{a:B}:wU a a=a:=by unfold wU;rw[Int.min_self,Int.max_self]
theorem aps{w:Wh}(h:iL w){o:Int}(ho:In64 o):(iD w o).1.Ok:=by
 unfold iD;repeat' split
 all_goals first|exact aD9|exact avN h.2 (Dt ho)
theorem acH{w:Wh}{o:Int}(hk:iL w)(h:(iD w o).2=0):w.kind=2∨w.kind=3∨w.kind=4:=by
 unfold iD at h;have:=hk.1;split at h
 ·simp at h
 split at h
 ·simp at h
 ·omega
theorem agI{w:Wh}{o:Int}(hk:iL w)(h:(iD w o).2=0):(iD w o).1=dV 2 w.b (eH o)∧low w.kind≤(iD w o).1.lo∧(iD w o).1.hi≤high w.kind:=by
 have h1:=acH hk h;unfold iD at *;rw[dw bQ,dw bQ]at *;split at h
 ·simp at h
 ·rename_i h2;rw[dw h2];refine⟨rfl,?_,?_⟩<;>simp only<;>omega
theorem aEb{sl:Nat→Wh}(h:∀ r,iL (sl r)):∀ (n k:Nat) (acc:B),acc.Ok→iL (wB sl n k acc).1
 |0,_,acc,ha=>iL.num ha
 |n+1,k,acc,ha=>by
  unfold wB;split
  ·exact iL.nil
  split
  ·exact iL.nil
  ·exact aEb h n (k+1) _ (aL2 ha (h k).2)
theorem kG.load{s:VS}(h:kG s){w:Wh}(hw:iL w)(o:Int):iL (s.load w o).1:=by
 unfold VS.load;split
 ·exact iL.nil
 split
 ·exact iL.num aDC
 split
 ·split
  ·exact iL.nil
  ·exact h.2 _
 ·exact aEb h.2 _ _ _ (h.2 _).2
theorem kG.store{s:VS}(h:kG s)(w:Wh)(o:Int){x:Wh}(hx:iL x):kG (s.store w o x).1:=by
 unfold VS.store;repeat' split
 all_goals first|exact h|exact h.setSlot _ hx
theorem kG.second{s:VS}(h:kG s){t:Step}(ht:In64 t.num):iL (s.second t):=by
 unfold VS.second;split
 ·exact h.1 _
 ·exact iL.num (Dt ht)
theorem kG.operand{s:VS}(h:kG s){t:Step}(ht:In64 t.num):iL (s.operand t):=by
 unfold VS.operand;split
 ·exact iL.num (Dt AL)
 ·exact h.second ht
theorem aEc{c:Int}{a b:Wh}(ha:iL a)(hb:iL b):iL (Wy c a b).1:=by
 unfold Wy;split
 ·exact iL.nil
 split
 ·exact iL.nil
 ·exact⟨ha.1,avN ha.2 hb.2⟩
theorem aqI{c:Int}{a b:Wh}(ha:iL a)(hb:iL b):iL (qJ c a b).1:=by
 unfold qJ;split
 ·exact iL.nil
 split
 ·exact hb
 split
 ·exact iL.num (avN ha.2 hb.2)
 split
 ·exact aEc hb ha
 ·exact aEc ha hb
theorem kG.call{s:VS}(h:kG s)(n:Int):kG (s.call n).1:=by
 unfold VS.call;split
 ·exact h
 split
 ·exact h
 refine⟨fun r=>?_,h.2⟩;simp only;split
 ·split
  ·exact⟨by simp,Dt AL⟩
  split
  ·exact iL.num (Dt AL)
  ·exact iL.num aDC
 split
 ·exact iL.nil
 ·exact h.1 r
theorem kG.narrowed{s:VS}(h:kG s)(t:Step){x y:B}(hx:x.Ok)(hy:y.Ok):kG (s.narrowed t x y):=by
 unfold VS.narrowed;split
 ·split
  ·exact h
  ·exact⟨iL.upd (iL.upd h.1 _ (show iL ⟨(s.regs t.src.toNat).kind,y⟩from⟨(h.1 _).1,hy⟩)) _ (show iL ⟨(s.regs t.dst.toNat).kind,x⟩from⟨(h.1 _).1,hx⟩),h.2⟩
 ·exact⟨iL.upd h.1 _ (show iL ⟨(s.regs t.dst.toNat).kind,x⟩from⟨(h.1 _).1,hx⟩),h.2⟩
theorem VS.aMB{s:VS}{t:Step}{c nx:Int}{y:VS × Int}(h:s.way t c nx=some y):(eX c (s.regs t.dst.toNat).b (s.second t).b).2.2=true∧y=(s.narrowed t (eX c (s.regs t.dst.toNat).b (s.second t).b).1 (eX c (s.regs t.dst.toNat).b (s.second t).b).2.1,nx):=by
 unfold VS.way at h;split at h
 ·rename_i h1;exact⟨h1,(Option.some.inj h).symm⟩
 ·simp at h
theorem kG.way{s:VS}(h:kG s){t:Step}(ht:In64 t.num){c nx:Int}{y:VS × Int}(hy:s.way t c nx=some y):kG y.1∧y.2=nx:=by
 obtain⟨h1,rfl⟩:=VS.aMB hy;have:=amb (h.1 t.dst.toNat).2 (h.second ht).2 h1;exact⟨h.narrowed t this.1 this.2,rfl⟩
theorem VS.aMC{s:VS}(h:kG s){t:Step}(ht:In64 t.num)(hc:P.asks t.code=true)(n m:Int):s.way t (NU t.code) n≠none∨s.way t t.code m≠none:=by
 have ha:=(h.1 t.dst.toNat).2;have hb:=(h.second ht).2;have x1:(s.regs t.dst.toNat).b.Has (s.regs t.dst.toNat).b.lo:=⟨Int.le_refl _,ha.2.2⟩;have x2:(s.second t).b.Has (s.second t).b.lo:=⟨Int.le_refl _,hb.2.2⟩;by_cases hi:P.is t.code (s.regs t.dst.toNat).b.lo (s.second t).b.lo=true
 ·right;unfold VS.way;rw[dB (aso ha hb x1 x2 hi).1];simp
 ·left;unfold VS.way;rw[dB (aso ha hb x1 x2 (by rw[aw2 hc];simpa using hi)).1];simp
def E8(n:Nat)(pc:Int)(x:Option (VS × Int)):Prop:=∀ y,x=some y→kG y.1∧pc<y.2∧y.2<n
theorem E8.none{n:Nat}{pc:Int}:E8 n pc none:=fun y h=>by simp at h
theorem E8.some{n:Nat}{pc nx:Int}{s:VS}(h:kG s)(h1:pc<nx)(h2:nx<n):E8 n pc (some (s,nx)):=fun y h=>by
 obtain rfl:=Option.some.inj h;exact⟨‹_›,h1,h2⟩
def Ue(n:Nat)(pc:Int)(t:Step):Prop:=(t.code=28∨pc+1<n)∧(t.leads→0≤t.off∧t.off<(n:Int)-1-pc)∧In64 t.num
theorem aMD{s:VS}(h:kG s){t:Step}{n:Nat}{pc:Int}(ht:Ue n pc t)(hc:15≤t.code∧t.code≤24){x y:Option (VS × Int)}(hs:s.asks t pc=.go x y):E8 n pc x∧E8 n pc y∧(x≠none∨y≠none):=by
 obtain⟨h1,h2,h3⟩:=ht;have hl:=h2 (.inr hc);have hn:pc+1<n:=bQ;have ho:pc+1+t.off<n:=bQ;unfold VS.asks at hs;split at hs
 ·cases hs
 split at hs
 ·have hw:=VS.aMC h h3 (by simp[P.asks,hc]) (pc+1) (pc+1+t.off);injection hs with e1 e2
  subst e1;subst e2;refine⟨fun y hy=>?_,fun y hy=>?_,hw⟩
  ·obtain⟨a,b⟩:=h.way h3 hy;exact⟨a,by omega,by omega⟩
  ·obtain⟨a,b⟩:=h.way h3 hy;exact⟨a,by omega,by omega⟩
 split at hs
 ·cases hs
 ·simp only at hs;split at hs
  ·injection hs with e1 e2
   subst e1;subst e2;refine⟨E8.some (h.gu _ (iL.num (Dt AL))) ?_ ?_,E8.some (h.gu _ ⟨by simp,Dt AL⟩) ?_ ?_,.inl dY⟩<;>(split<;>omega)
  ·injection hs with e1 e2
   subst e1;subst e2;refine⟨E8.some h ?_ ?_,E8.none,.inl dY⟩<;>(split<;>omega)
theorem aw6{s:VS}(h:kG s){t:Step}{n:Nat}{pc:Int}(ht:Ue n pc t){x y:Option (VS × Int)}(hs:s.step t pc=.go x y):E8 n pc x∧E8 n pc y∧(x≠none∨y≠none):=by
 have ht':=ht;obtain⟨h1,h2,h3⟩:=ht;unfold VS.step at hs;split at hs
 ·repeat' split at hs
  all_goals cases hs
 rename_i h28;have hn:pc+1<n:=bQ;split at hs
 ·rename_i h14;have hl:=h2 (.inl h14);injection hs with e1 e2;subst e1;subst e2
  exact⟨E8.some h bQ bQ,E8.none,.inl dY⟩
 split at hs
 ·exact aMD h ht' rM hs
 split at hs
 ·split at hs
  ·cases hs
  ·injection hs with e1 e2;subst e1;subst e2
   exact⟨E8.some (h.gu _ (h.load (h.1 _) _)) bQ hn,E8.none,.inl dY⟩
 split at hs
 ·split at hs
  ·cases hs
  ·injection hs with e1 e2;subst e1;subst e2
   exact⟨E8.some (h.store _ _ (h.second h3)) bQ hn,E8.none,.inl dY⟩
 split at hs
 ·split at hs
  ·cases hs
  ·injection hs with e1 e2;subst e1;subst e2
   exact⟨E8.some (h.call _) bQ hn,E8.none,.inl dY⟩
 ·split at hs
  ·cases hs
  ·injection hs with e1 e2;subst e1;subst e2
   exact⟨E8.some (h.gu _ (aqI (h.1 _) (h.operand h3))) bQ hn,E8.none,.inl dY⟩
theorem step_done{s:VS}(h:kG s){t:Step}{pc:Int}{b:B}(hs:s.step t pc=.done b):b.Ok:=by
 unfold VS.step VS.asks at hs;split at hs
 ·split at hs
  ·injection hs with e;rw[←e];exact(h.1 0).2
  ·split at hs<;>cases hs
 ·simp only at hs;repeat' split at hs
  all_goals cases hs
theorem aEd(l:List B)(b:B):outOf (l++[b])=if l=[]then b else wU (outOf l) b:=by
 cases l with
 |nil=>rfl
 |cons x l=>simp[outOf,List.foldl_append]
theorem aEe{l:List B}{a:B}{n:Int}(h:a.Has n∨∃ b∈l,b.Has n):(l.foldl wU a).Has n:=by
 induction l generalizing a with
 |nil=>rcases h with h|⟨b,hb,-⟩;exact h;simp at hb
 |cons y l ih =>
  refine ih ?_;rcases h with h|⟨b,hb,hn⟩
  ·left;unfold wU B.Has at *;simp only;omega
  ·rcases List.mem_cons.1 hb with e|hb
   ·subst e;left;unfold wU B.Has at *;simp only;omega
   ·exact .inr ⟨b,hb,hn⟩
theorem aF5{l:List B}{b:B}(hb:b∈l){n:Int}(h:b.Has n):(outOf l).Has n:=by
 cases l with
 |nil=>simp at hb
 |cons x l =>
  unfold outOf;rcases List.mem_cons.1 hb with e|hb
  ·subst e;exact aEe (.inl h)
  ·exact aEe (.inr ⟨b,hb,h⟩)
structure Keeps(w:Wk)(r:VR):Prop where
 ok:(∀ b∈w.ends,b.Ok)→∀ b∈r.2.ends,b.Ok
 more:∃ l,r.2.ends=w.ends++l∧(r.1.1=0→l≠[])
 looks:w.looks≤r.2.looks
 place:r.1.1=0→r.1.2=-1
theorem Keeps.looked{w:Wk}{r:VR}(h:Keeps ⟨w.looks+1,w.ends⟩ r):Keeps w r:=⟨h.ok,h.more,by have:=h.looks;simp only at this;omega,h.place⟩
theorem Keeps.trans{w:Wk}{r r':VR}(h:Keeps w r)(k:Keeps r.2 r'):Keeps w r':=by
 refine⟨fun hw=>k.ok (h.ok hw),?_,Int.le_trans h.looks k.looks,k.place⟩;obtain⟨l,e,h1⟩:=h.more;obtain⟨l',e',h2⟩:=k.more;refine⟨l++l',by rw[e',e,List.append_assoc],fun h0=>?_⟩;have:=h2 h0;simp[this]
theorem aME{f:VS→Int→Wk→VR}{pc:Int}{w:Wk}{x y:Option (VS × Int)}(hx:∀ z,x=some z→∀ w,Keeps w (f z.1 z.2 w))(hy:∀ z,y=some z→∀ w,Keeps w (f z.1 z.2 w))(h:x≠none∨y≠none):Keeps w (J4 f pc w (.go x y)):=by
 show Keeps w (J3 (rU f x w) (rU f y));unfold J3 rU;cases x with
 |none =>
  cases y with
  |none=>simp at h
  |some b=>simp only;rw[dw dY];exact hy b rfl w
 |some a =>
  simp only;split
  ·exact hx a rfl w
  ·rename_i h0;cases y with
   |none =>
    have h0:(f a.1 a.2 w).1.1=0:=by simpa using h0
    have k:=hx a rfl w;refine⟨k.ok,?_,k.looks,fun _=>rfl⟩;obtain⟨l,e,h1⟩:=k.more;exact⟨l,e,fun _=>h1 h0⟩
   |some b=>exact(hx a rfl w).trans (hy b rfl _)
theorem agJ(S:Nat→Step)(k:Nat)(s:VS)(pc:Int)(w:Wk):iO S (k+1) s pc w =
  if 4000<w.looks+1 then((4,pc),⟨w.looks+1,w.ends⟩)else J4 (iO S k) pc ⟨w.looks+1,w.ends⟩ (s.step (S pc.toNat) pc):=rfl
theorem asu{s:VS}{t:Step}{pc e:Int}(hs:s.step t pc=.err e):e≠0:=by
 unfold VS.step VS.asks at hs;repeat' split at hs
 all_goals first|(injection hs with e1;rw[←e1];first|assumption|decide)|cases hs|(simp only at hs;split at hs<;>cases hs)
theorem G7{S:Nat→Step}{n:Nat}(hS:∀ j,j<n→Ue n j (S j)):∀ (k:Nat) (s:VS) (pc:Int) (w:Wk),kG s→0≤pc→pc<n→n≤pc+k→Keeps w (iO S k s pc w)
 |0,s,pc,w,_,h0,h1,h2=>by omega
 |k+1,s,pc,w,hs,h0,h1,h2=>by
  rw[agJ];split
  ·exact⟨fun h=>h,⟨[],by simp,fun h=>by simp at h⟩,by simp only;omega,fun h=>by simp at h⟩
  ·refine Keeps.looked ?_;have ht:Ue n pc (S pc.toNat):=by have:=hS pc.toNat bQ;rwa [Int.toNat_of_nonneg h0]at this
   cases hr:s.step (S pc.toNat) pc with
   |done b =>
    have hb:=step_done hs hr;refine⟨fun h c hc=>?_,⟨[b],rfl,fun _=>by simp⟩,Int.le_refl _,fun _=>rfl⟩;simp only[J4,List.mem_append,List.mem_singleton]at hc;rcases hc with hc|rfl
    ·exact h c hc
    ·exact hb
   |err e=>exact⟨fun h=>h,⟨[],by simp[J4],fun h=>absurd h (asu hr)⟩,Int.le_refl _,fun h=>absurd h (asu hr)⟩
   |go x y =>
    obtain⟨hx,hy,hxy⟩:=aw6 hs ht hr;refine aME (fun z hz w=>?_) (fun z hz w=>?_) hxy
    ·obtain⟨a,b,c⟩:=hx z hz;exact G7 hS k z.1 z.2 w a bQ c bQ
    ·obtain⟨a,b,c⟩:=hy z hz;exact G7 hS k z.1 z.2 w a bQ c bQ
theorem aEf{f:VS→Int→Wk→VR}(hf:∀ s pc w,w.looks≤4000→(f s pc w).1.1=0→(f s pc w).2.looks≤4000)(o:Option (VS × Int))(w:Wk)(h:w.looks≤4000)(h0:(rU f o w).1.1=0):(rU f o w).2.looks≤4000:=by
 cases o with
 |none=>exact h
 |some a=>exact hf _ _ _ h h0
theorem TV{S:Nat→Step}:∀ (k:Nat) (s:VS) (pc:Int) (w:Wk),w.looks≤4000→(iO S k s pc w).1.1=0→(iO S k s pc w).2.looks≤4000
 |0,s,pc,w,h,_=>h
 |k+1,s,pc,w,h,h0=>by
  rw[agJ]at h0 ⊢;by_cases hl:4000<w.looks+1
  ·rw[dB hl]at h0;simp at h0
  rw[dw hl]at h0 ⊢;cases hr:s.step (S pc.toNat) pc with
  |done b=>show w.looks+1≤4000;omega
  |err e=>show w.looks+1≤4000;omega
  |go x y =>
   rw[hr]at h0;show(J3 (rU (iO S k) x ⟨w.looks+1,w.ends⟩) (rU (iO S k) y)).2.looks≤4000;have h0':(J3 (rU (iO S k) x ⟨w.looks+1,w.ends⟩) (rU (iO S k) y)).1.1=0:=h0;unfold J3 at h0' ⊢;split at h0'
   ·rename_i h1;exact absurd h0' h1
   ·rename_i h1;rw[dw h1];have e1:(rU (iO S k) x ⟨w.looks+1,w.ends⟩).1.1=0:=by simpa using h1
    exact aEf (TV k) y _ (aEf (TV k) x _ (by show w.looks+1≤4000;omega) e1) h0'
theorem ao6{f:VS→Int→Wk→VR}{pc:Int}{w:Wk}{s:VS}{n:Int}{y:Option (VS × Int)}(h:(f s n w).1.1≠0):J4 f pc w (.go (some (s,n)) y)=f s n w:=dB h
theorem asE{f:VS→Int→Wk→VR}{pc:Int}{w:Wk}{s t:VS}{n m:Int}(h:(f s n w).1.1=0):J4 f pc w (.go (some (s,n)) (some (t,m)))=f t m (f s n w).2:=dw (by show¬(f s n w).1.1≠0;simp[h])
theorem agT{f:VS→Int→Wk→VR}{pc:Int}{w:Wk}{s:VS}{n:Int}(h:(f s n w).1.1=0→(f s n w).1.2=-1):J4 f pc w (.go (some (s,n)) none)=f s n w:=by
 by_cases h0:(f s n w).1.1=0
 ·show J3 (f s n w) (rU f none)=f s n w;unfold J3;rw[dw acT];show((0,-1),(f s n w).2)=f s n w;have h1:=h h0;generalize f s n w=r at h0 h1;obtain⟨⟨e,p⟩,k⟩:=r;have h0:e=0:=h0;have h1:p=-1:=h1;rw[h0,h1]
 ·exact ao6 h0
theorem aMF{S:Nat→Step}{n j:Nat}(hj:j<n)(h:at_ S n j=0)(hn:In64 (S j).num):Ue n j (S j):=by
 obtain⟨h1,h2,h3⟩:=aoH h;refine⟨?_,h2,hn⟩;by_cases e:j+1=n
 ·exact .inl (h3 e)
 ·exact .inr bQ
structure aar(S:Nat→Step)(n:Nat):Prop where
 step:∀ j,j<n→Ue n j (S j)
 wrong:∀ j,j<n→(S j).wrong=0
 off:∀ j,j<n→In64 (S j).off
theorem asr{c d s:Int}{r:Bool}{o n:Int}(h:¬bad c d s r o n)(hc:c=27):1≤n∧n≤3:=by
 unfold bad at h;omega
end Go.Proofs.YtglilddlhibogaaGreatDoor.P
namespace Go.Proofs.YtglilddlhibogaaGreatDoor.P
open Go.RowKit
def fC(w:Wh)(k:Nat):Value:=aU (if k=0 then w.kind else if k=1 then w.b.lo else w.b.hi)
theorem aEg(v:Wh):fC v 0=aU v.kind:=rfl
theorem aEh(v:Wh):fC v 1=aU v.b.lo:=rfl
theorem aEi(v:Wh):fC v 2=aU v.b.hi:=rfl
def letter(k:Int):Int:=if k=0 then 0 else if k=1 then 110 else if k=2 then 116 else if k=3 then 102 else if k=4 then 99 else 109
def fV(w:Wh)(k:Nat):Value:=if k=0 then .int .u8 (letter w.kind)else aU (if k=1 then w.b.lo else w.b.hi)
theorem amL(v:Wh):fV v 0=.int .u8 (letter v.kind):=rfl
theorem ajg(v:Wh):fV v 1=aU v.b.lo:=rfl
theorem ajh(v:Wh):fV v 2=aU v.b.hi:=rfl
def gQ(c:Wh→Nat→Value)(s:VS):Nat→Value:=fun j=>if j<33 then c (s.regs (j/3)) (j%3)else c (s.slots ((j-33)/3)) ((j-33)%3)
def iK(c:Wh→Nat→Value)(s:VS):List Value:=(List.range 81).map (gQ c s)
theorem ajv(c:Wh→Nat→Value)(s:VS):(iK c s).length=81:=by simp[iK]
theorem apF{c:Wh→Nat→Value}{s:VS}{j:Nat}(h:j<81):(iK c s)[j]?=some (gQ c s j):=by simp[iK,h]
variable{c:Wh→Nat→Value}{s:VS}
theorem Uw{r k j:Nat}(hr:r<11)(hk:k<3)(hj:j=r*3+k):gQ c s j=c (s.regs r) k:=by
 subst hj;unfold gQ;exact ay3
theorem aaJ{r k j:Nat}(hr:r<16)(hk:k<3)(hj:j=33+r*3+k):gQ c s j=c (s.slots r) k:=by
 subst hj;unfold gQ;rw[dw bQ,show(33+r*3+k-33)/3=r by omega,show(33+r*3+k-33)%3=k by omega]
theorem Oy{r:Nat}(hr:r<11)(v:Wh):∀ j,j<81→upd (upd (upd (gQ c s) (r*3) (c v 0)) (r*3+1) (c v 1)) (r*3+2) (c v 2) j=gQ c { s with regs:=upd s.regs r v} j:=by
 intro j hj;by_cases h2:j=r*3+2
 ·rw[Uw hr (bQ:2<3) h2,h2,upd_same];simp[upd_same]
 by_cases h1:j=r*3+1
 ·rw[Uw hr (bQ:1<3) h1,fB h2,h1,upd_same];simp[upd_same]
 by_cases h0:j=r*3
 ·rw[Uw hr (bQ:0<3) bQ,fB h2,fB h1,h0,upd_same];simp[upd_same]
 refine amJ ?_;unfold gQ;simp only;split
 ·rw[fB bQ]
 ·rfl
theorem aCt{r:Nat}(hr:r<16)(v:Wh):∀ j,j<81→upd (upd (upd (gQ c s) (33+r*3) (c v 0)) (33+r*3+1) (c v 1)) (33+r*3+2) (c v 2) j=gQ c { s with slots:=upd s.slots r v} j:=by
 intro j hj;by_cases h2:j=33+r*3+2
 ·rw[aaJ hr (bQ:2<3) h2,h2,upd_same];simp[upd_same]
 by_cases h1:j=33+r*3+1
 ·rw[aaJ hr (bQ:1<3) h1,fB h2,h1,upd_same];simp[upd_same]
 by_cases h0:j=33+r*3
 ·rw[aaJ hr (bQ:0<3) bQ,fB h2,fB h1,h0,upd_same];simp[upd_same]
 refine amJ ?_;unfold gQ;simp only;split
 ·rfl
 ·rw[fB bQ]
theorem agx{r:Nat}(hr:r<11)(b:B)(hc:∀ v,c v 0=c ⟨v.kind,b⟩ 0):∀ j,j<81→upd (upd (gQ c s) (r*3+1) (c ⟨(s.regs r).kind,b⟩ 1)) (r*3+2) (c ⟨(s.regs r).kind,b⟩ 2) j=gQ c { s with regs:=upd s.regs r ⟨(s.regs r).kind,b⟩} j:=by
 intro j hj;rw[←Oy hr ⟨(s.regs r).kind,b⟩ j hj];by_cases h2:j=r*3+2
 ·rw[h2,upd_same,upd_same]
 by_cases h1:j=r*3+1
 ·rw[fB h2,fB h2,h1,upd_same,upd_same]
 rw[fB h2,fB h2,fB h1,fB h1];by_cases h0:j=r*3
 ·rw[h0,upd_same,Uw hr (bQ:0<3) bQ];exact hc _
 ·rw[fB h0]
theorem Img.iK{w:World}{b:Nat}(h:Img w b 81 (gQ c s)):w.rangeAt b 0 (P.iK c s):=by
 intro j v hv;have hj:j<81:=by have:=(List.getElem?_eq_some_iff.1 hv).1;rwa [ajv]at this
 rw[apF hj]at hv;rw[Nat.zero_add,h.cell j hj,hv]
theorem Img.al7{w:World}{t:TypeId}:Img (w.alloc (.cells (P.iK c s).toArray t (0,0))) w.heap.size 81 (gQ c s):=by
 refine Img.of_cells (heap_alloc_new w _) (by rw[List.size_toArray,ajv]) fun j hj=>?_;rw[List.getElem?_toArray,apF hj]
end Go.Proofs.YtglilddlhibogaaGreatDoor.P
namespace Go.Proofs.YtglilddlhibogaaGreatDoor.W
open Go.RowKit Go.Proofs.YtglilddlhibogaaGreatDoor.P
def aei(t:Step):Nat→Value:=fun j=>if j=0 then aU t.code else if j=1 then aU t.dst else if j=2 then aU t.src else if j=3 then .bool t.reg else if j=4 then aU t.off else aU t.num
theorem zM{w:World}{b:Nat}{t:Step}(hI:P.Img w b 6 (aei t)):w.cell? ⟨b,0,none⟩=some (aU t.code)∧w.cell? ⟨b,1,none⟩=some (aU t.dst)∧w.cell? ⟨b,2,none⟩=some (aU t.src)∧w.cell? ⟨b,3,none⟩=some (.bool t.reg)∧w.cell? ⟨b,4,none⟩=some (aU t.off)∧w.cell? ⟨b,5,none⟩=some (aU t.num) :=
 ⟨hI.cell 0 bQ,hI.cell 1 bQ,hI.cell 2 bQ,hI.cell 3 bQ,hI.cell 4 bQ,hI.cell 5 bQ⟩
theorem Img.zero3{w:World}{b:Nat}{t:TypeId}(h:w.heap[b]?=some (.cells #[aU 0,aU 0,aU 0] t (0,0))):P.Img w b 3 (fun _=>aU 0):=by
 exact asy
theorem Cells.but{w w':World}{a:Addr}{S:Nat→Step}{n b:Nat}(h:Cells w a S n)(hb:But b w w')(hne:a.block≠b):Cells w' a S n:=by
 have hbl:∀ i,(a.add i).block=a.block:=fun i=>by unfold Addr.add;split<;>rfl
 intro i hi;obtain⟨e0,e1,e2,e3,e4,e5⟩:=h i hi;exact⟨hb.cell e0 (by rw[hbl];exact hne),hb.cell e1 anA,hb.cell e2 anA,hb.cell e3 anA,hb.cell e4 anA,hb.cell e5 anA⟩
theorem agz{w:World}{c:Array Value}{t:TypeId}{n:Nat}(h:n=c.size):(w.alloc (.cells c t (0,0))).there w.heap.size 0 n:=by
 subst h;have I:P.Img (w.alloc (.cells c t (0,0))) w.heap.size c.size (fun j=>c.getD j undef):=Img.of_cells (heap_alloc_new w _) rfl fun j hj=>by simp[hj]
 exact fun j hj=>⟨by rw[Nat.zero_add,I.cell j hj];rfl,by rw[Nat.zero_add];exact I.free j hj⟩
theorem aeS{b u:Nat}{w x y:World}(h:But b w x)(k:But u x y)(hu:w.heap.size≤u):But b w y :=
 ⟨k.os.trans h.os,k.tape.trans h.tape,k.output.trans h.output,Nat.le_trans h.size k.size,fun i hi ne=>(k.block i (Nat.lt_of_lt_of_le hi h.size) bQ).trans (h.block i hi ne)⟩
theorem BJ{P:Program}{ops:Array Oper}{rest:List Oper}{op:Oper}{a:Act}{w:World}{Q:Exit→Act→World→Prop}(hw:Region.wanted op (yielded ops a.tmps)=true)(ty:TypeId)(x:Operand)(ho:op.op=.load ty x)
  (b o:Nat) (hx:a.eval x=.pointer (some ⟨b,o,none⟩)) (cs:List Value) (d:TypeDesc) (hc:w.rangeAt b o cs) (hu:P.underlying ty=some d) (hd:d.isRow=true) (hi:(P.info? ty).map (·.size)=some cs.length)
  (h:wpList P ops Q rest (a.put op.dst (.agg cs.toArray)) w):wpList P ops Q (op::rest) a w :=
 wpList_step fun _ hK=>by
  rw[dB hw];exact wp_load_mid ty x ho b o hx cs d hc hu hd hi (hK _ _ h)
theorem amP{S:Nat→Step}{n:Nat}:∀ (k i:Nat),(from_ S n i k).1=0→from_ S n i k=(0,-1)
 |0,i,_=>rfl
 |k+1,i,h=>by
  unfold from_ at h ⊢;by_cases ha:at_ S n i=0
  ·rw[dw (by simp[ha])]at h ⊢;exact amP k (i+1) h
  ·rw[dB ha]at h;exact absurd h ha
def xY(w:World)(oa:Option Addr)(S:Nat→Step)(n:Nat):Prop:=0<n→∃ a,oa=some a∧Cells w a S n
theorem xY.later{w w':World}{oa:Option Addr}{S:Nat→Step}{n:Nat}(h:xY w oa S n)(hb:Below w.heap.size w w'):xY w' oa S n:=fun hn=>by
 obtain⟨a,h1,h2⟩:=h hn;exact⟨a,h1,h2.later hb⟩
theorem aoD{b B:Nat}(hB:B≤b):∀ (vs:List Value) (o:Nat) (w x:World),Below B x w→Below B x (w.setCells b o vs)
 |[],_,_,_,h=>h
 |v::r,o,w,x,h=>by rw[World.setCells];exact aoD hB r (o+1) _ _ (h.setCell hB v)
theorem ajD(lo hi:Int)(w:World) :
  Calls Tryz.prog 116 #[.agg #[aU lo,aU hi]] w fun e w'=>e=.returned (.agg #[aU 1,aU lo,aU hi])∧Below w.heap.size w w':=by
 refine fU ?_;intro HW0;go_enter Tryz.func116,Tryz.ntmps116;go_wp2_with fail;first
 |(go_ret;exact⟨rfl,gI⟩)
 |(refine bodyPost_ret (v:=.agg #[aU 1,aU lo,aU hi]) ?_ rfl ⟨rfl,gI⟩;simp[results,Tryz.results116,go_sem])
theorem aIH(er p:Int)(w:World) :
  Calls Tryz.prog 108 #[aU er,aU p] w fun e w'=>e=.returned (.iface 119 (.pointer (some ⟨w.heap.size,0,none⟩)))∧w'.cell? ⟨w.heap.size,0,none⟩=some (aU er)∧w'.cell? ⟨w.heap.size,1,none⟩=some (aU p)∧w.heap.size<w'.heap.size∧Below w.heap.size w w':=by
 refine fU ?_;intro HW0;go_enter Tryz.func108,Tryz.ntmps108;go_wp2_with fail;go_ret
 refine⟨rfl,?_,?_,?_,gI⟩<;>simp[go_sem]
theorem aMG(k:Int)(hk:k=2∨k=3∨k=4)(w:World) :
  Calls Tryz.prog 185 #[aU k] w fun e w'=>e=.returned (.tuple #[aU (low k),aU (high k)])∧w=w':=by
 rcases hk with rfl|rfl|rfl
 all_goals
  go_enter Tryz.func185,Tryz.ntmps185;go_wp2_with fail;go_ret2
  exact⟨rfl,rfl⟩
theorem aMH(k lo hi:Int)(o:Int)(hk:k=0∨k=1∨k=5)(w:World) :
  Calls Tryz.prog 152 #[.agg #[aU k,aU lo,aU hi],aU o] w fun e w'=>e=.returned (.tuple #[.agg #[aU 0,aU 0],aU (if k=0 then 8 else 1)])∧Below w.heap.size w w':=by
 refine fU ?_;intro HW0;rcases hk with rfl|rfl|rfl
 all_goals
  go_enter Tryz.func152,Tryz.ntmps152;go_wp2_with fail;refine bodyPost_ret (v:=_) ?_ rfl ⟨rfl,gI⟩;simp[results,Tryz.results152,go_sem]
theorem aMI(k lo hi:Int)(o:Int)(hk:k=2∨k=3∨k=4)(hb:B.Ok ⟨lo,hi⟩)(ho:In64 o)(w:World) :
  Calls Tryz.prog 152 #[.agg #[aU k,aU lo,aU hi],aU o] w fun e w'=>e=.returned (.tuple #[.agg #[aU (iD ⟨k,⟨lo,hi⟩⟩ o).1.lo,aU (iD ⟨k,⟨lo,hi⟩⟩ o).1.hi],aU (iD ⟨k,⟨lo,hi⟩⟩ o).2])∧Below w.heap.size w w':=by
 refine fU ?_;intro HW0;have c1:∀ wd dr os,Calls Tryz.prog 76 #[aU o] (Go.Sort.grow (redrawn wd dr) os) fun e w'=>e=.returned (.agg #[aU o,aU o])∧XH (Go.Sort.grow (redrawn wd dr) os) w':=fun wd dr os=>acW o _;have c2:∀ wd dr os,Calls Tryz.prog 154 #[aU 2,.agg #[aU lo,aU hi],.agg #[aU o,aU o]] (Go.Sort.grow (redrawn wd dr) os) fun e w'=>e=.returned (.agg #[aU (dV 2 ⟨lo,hi⟩ (eH o)).lo,aU (dV 2 ⟨lo,hi⟩ (eH o)).hi])∧XH (Go.Sort.grow (redrawn wd dr) os) w':=fun wd dr os=>ala 2 lo hi o o hb.1 hb.2.1 ho ho hb.2.2 (Int.le_refl _) _;refine ayy ?_;intro hv;rw[hv];clear hv;generalize dV 2 ⟨lo,hi⟩ (eH o)=d at *;obtain⟨dl,dh⟩:=d;simp only at c2 ⊢;have CW:=bW (fun w=>aMG k hk w);have C1:=bW c1;have C2:=bW c2;have HO:=bW ho;have qx:=bW hb;have t0:(k==0)=false:=lW;have t1:(k==1)=false:=lW;have t5:(k==5)=false:=lW;generalize low k=L at *;generalize high k=H at *;clear c1 c2 ho hb hk;go_enter Tryz.func152,Tryz.ntmps152;go_wp2_with fail;generalize hW:World.alloc (World.alloc w _) _=wd;have f0:wd.cell? ⟨w.heap.size,0,none⟩=some (aU k):=qY;have f1:wd.cell? ⟨w.heap.size,1,none⟩=some (aU lo):=qY;have f2:wd.cell? ⟨w.heap.size,2,none⟩=some (aU hi):=qY;have g0:wd.cell? ⟨w.heap.size+1,0,none⟩=some (aU 0):=qY;have g1:wd.cell? ⟨w.heap.size+1,1,none⟩=some (aU 0):=qY;have g2:wd.frozen? ⟨w.heap.size+1,0,none⟩=false:=qY;have g3:wd.frozen? ⟨w.heap.size+1,1,none⟩=false:=qY
 have HB1:=bW (show Below w.heap.size w wd from hW▸gI);have zd:w.heap.size+1<wd.heap.size:=OC;clear hW;have k0:=cell_regrown f0;have k1:=cell_regrown f1;have k2:=cell_regrown f2;refine aLK 6 5 6 130 (.cells #[aU 0,aU 0] 130 (0,0)) dF dF dF dF dF dF (fun w=>by kernel_rfl) ?_
 (repeat (first|refine asY iC ?_|(refine asZ iC (fun K hK=>?_);go_simp;first|(refine hK _ ?_;clear hK K)|(apply Exists.intro;refine⟨fun _=>?_,hK _ ?_⟩;(first|exact C1.out _ _ _|exact C2.out _ _ _);clear hK K))))
 refine as1 ?_;intro m wq hbq hm hzm;have m0:wq.cell? ⟨m,0,none⟩=some (aU 0):=by simp[World.cell?,hzm]
 have m1:wq.cell? ⟨m,1,none⟩=some (aU 0):=by simp[World.cell?,hzm]
 have m2:wq.frozen? ⟨m,0,none⟩=false:=by simp[World.frozen?,hzm]
 have m3:wq.frozen? ⟨m,1,none⟩=false:=by simp[World.frozen?,hzm]
 have n0:¬m=w.heap.size:=bQ;have n1:¬m=w.heap.size+1:=bQ;have n2:¬w.heap.size=m:=bQ;have n3:¬w.heap.size+1=m:=bQ;have nm:w.heap.size≤m:=bQ;clear k0 k1 k2 hzm;have zw:w.heap.size<wd.heap.size:=bQ;have a0:wq.cell? ⟨w.heap.size,0,none⟩=some (aU k):=(hbq.cell (p:=⟨w.heap.size,0,none⟩) zw).trans f0;have b0:wq.cell? ⟨w.heap.size+1,0,none⟩=some (aU 0):=(hbq.cell (p:=⟨w.heap.size+1,0,none⟩) zd).trans g0;have b1:wq.cell? ⟨w.heap.size+1,1,none⟩=some (aU 0):=(hbq.cell (p:=⟨w.heap.size+1,1,none⟩) zd).trans g1;have b2:wq.frozen? ⟨w.heap.size+1,0,none⟩=false:=(hbq.frozen (p:=⟨w.heap.size+1,0,none⟩) zd).trans g2;have b3:wq.frozen? ⟨w.heap.size+1,1,none⟩=false:=(hbq.frozen (p:=⟨w.heap.size+1,1,none⟩) zd).trans g3;have HW1:=bW (HB1.out.trans (hbq.mono bQ));have zq:w.heap.size+1<wq.heap.size:=by have:=hbq.size;omega
 have zq2:w.heap.size<wq.heap.size:=bQ;clear hbq f0 f1 f2 g0 g1 g2 g3 HB1 zd zw;by_cases h1:dl<L
 ·exact aEj
 ·by_cases h2:H<dh
  ·exact aEj
  ·go_wp2_with (with_reducible refine(CW.out _).mono ?_;rintro e w' ⟨rfl,rfl⟩);refine bodyPost_ret (v:=.tuple #[.agg #[aU dl,aU dh],aU 0]) ?_ rfl ⟨rfl,jZ⟩;simp[results,Tryz.results152,go_sem, *]
theorem agk(a:Wh)(o:Int)(ha:iL a)(ho:In64 o)(w:World) :
  Calls Tryz.prog 152 #[.agg #[aU a.kind,aU a.b.lo,aU a.b.hi],aU o] w fun e w'=>e=.returned (.tuple #[.agg #[aU (iD a o).1.lo,aU (iD a o).1.hi],aU (iD a o).2])∧Below w.heap.size w w':=by
 obtain⟨k,⟨lo,hi⟩⟩:=a;obtain⟨hk,hb⟩:=ha;simp only at hk hb;by_cases h:k=0∨k=1∨k=5
 ·refine(aMH k lo hi o h w).mono fun e w' he=>?_;have e1:iD ⟨k,⟨lo,hi⟩⟩ o=(kK,if k=0 then 8 else 1):=by
   exact ayB
  rw[e1];exact he
 ·exact aMI k lo hi o bQ hb ho w
theorem sZ{a b:Int}(h:a≠b):(a==b)=false:=auR
theorem VF{a b:Int}(h:a=b):(a==b)=true:=by rw[beq_iff_eq];exact h
theorem aan{a b:Int}(h:a≠b):(a !=b)=true:=by rw[bne_iff_ne];exact h
theorem aEk{a b:Int}(h:a=b):(a !=b)=false:=by simp[h]
theorem acs{w:World}{b:Nat}{s:VS}(hI:P.Img w b 81 (gQ fC s)){k:Nat}(hk:k<11):w.cell? ⟨b,k*3,none⟩=some (aU (s.regs k).kind)∧w.cell? ⟨b,k*3+1,none⟩=some (aU (s.regs k).b.lo)∧w.cell? ⟨b,k*3+2,none⟩=some (aU (s.regs k).b.hi) :=
 ⟨(hI.cell (k*3) bQ).trans (congrArg some ((Uw hk (bQ:0<3) bQ).trans (aEg _))),(hI.cell (k*3+1) bQ).trans (congrArg some ((Uw hk (bQ:1<3) bQ).trans (aEh _))),(hI.cell (k*3+2) bQ).trans (congrArg some ((Uw hk (bQ:2<3) bQ).trans (aEi _)))⟩
theorem aEl{w:World}{b:Nat}{s:VS}(hI:P.Img w b 81 (gQ fC s)){k:Nat}(hk:k<16):w.cell? ⟨b,33+k*3,none⟩=some (aU (s.slots k).kind)∧w.cell? ⟨b,33+k*3+1,none⟩=some (aU (s.slots k).b.lo)∧w.cell? ⟨b,33+k*3+2,none⟩=some (aU (s.slots k).b.hi) :=
 ⟨(hI.cell (33+k*3) bQ).trans (congrArg some ((aaJ hk (bQ:0<3) bQ).trans (aEg _))),(hI.cell (33+k*3+1) bQ).trans (congrArg some ((aaJ hk (bQ:1<3) bQ).trans (aEh _))),(hI.cell (33+k*3+2) bQ).trans (congrArg some ((aaJ hk (bQ:2<3) bQ).trans (aEi _)))⟩
theorem aMJ(b:Nat)(s:VS)(w:World)(hI:P.Img w b 81 (gQ fC s))(c d:Int)(k:Nat)(hk:k<11)(o n:Int) :
  Calls Tryz.prog 113 #[.pointer (some ⟨b,0,none⟩),.agg #[aU c,aU d,aU k,.bool true,aU o,aU n]] w fun e w' =>
   e=.returned (.agg #[aU (s.regs k).kind,aU (s.regs k).b.lo,aU (s.regs k).b.hi])∧Below w.heap.size w w':=by
 refine KE ?_;intro HW0 hlt;have i0:(0:Int)≤(k:Int):=bQ;have i1:(k:Int)<11:=bQ;obtain⟨c0,c1,c2⟩:=acs hI hk;have HI:=bW hI;clear hI;go_enter Tryz.func113,Tryz.ntmps113;go_wp2_with fail;go_region;all_goals
  go_wp2_with fail;refine bodyPost_ret ?_ rfl ⟨rfl,gI⟩;simp[results,Tryz.results113,go_sem]
theorem aMK(p:Value)(w:World)(c d k o n:Int) :
  Calls Tryz.prog 113 #[p,.agg #[aU c,aU d,aU k,.bool false,aU o,aU n]] w fun e w' =>
   e=.returned (.agg #[aU 1,aU n,aU n])∧Below w.heap.size w w':=by
 refine fU ?_;intro HW0;go_enter Tryz.func113,Tryz.ntmps113;go_wp2_with fail;refine(acW n _).mono ?_;refine Uy ?_;intro w1 hc1 hf1 hz1 HW1 z10 z11;refine aaL ?_;intro zX zZ Af Ah Ai Aj;clear hc1 hf1;go_wp2_with fail;refine(ajD n n _).mono ?_
 (rintro e w2 ⟨rfl,hb⟩;obtain⟨hc2,hf2⟩:=jd hb;have hz2:=hb.size;(try simp at hz2);have HW2:=bW (show Below w.heap.size w w2 from Below.trans jZ (hb.mono fD));clear hb;have z20:w.heap.size<w2.heap.size:=bQ;have z21:w.heap.size+1<w2.heap.size:=bQ)
 (have aML:w2.cell? ⟨w.heap.size+1,0,none⟩=some (aU 0):=aaN;have aMM:w2.frozen? ⟨w.heap.size+1,0,none⟩=false:=aaO;have aMN:w2.cell? ⟨w.heap.size+1,1,none⟩=some (aU 0):=aaN;have aMO:w2.frozen? ⟨w.heap.size+1,1,none⟩=false:=aaO;have aMP:w2.cell? ⟨w.heap.size+1,2,none⟩=some (aU 0):=aaN;have aMQ:w2.frozen? ⟨w.heap.size+1,2,none⟩=false:=aaO)
 clear hc2 hf2;go_wp2_with fail;refine bodyPost_ret ?_ rfl ⟨rfl,Uu⟩;simp[results,Tryz.results113,go_sem, *]
theorem avO(b:Nat)(s:VS)(w:World)(hI:P.Img w b 81 (gQ fC s))(c d:Int)(k:Nat)(r:Bool)(o n:Int)(hk:k<11) :
  Calls Tryz.prog 113 #[.pointer (some ⟨b,0,none⟩),.agg #[aU c,aU d,aU k,.bool r,aU o,aU n]] w fun e w' =>
   e=.returned (.agg #[aU (s.second ⟨c,d,k,r,o,n⟩).kind,aU (s.second ⟨c,d,k,r,o,n⟩).b.lo,aU (s.second ⟨c,d,k,r,o,n⟩).b.hi])∧Below w.heap.size w w':=by
 cases r with
 |true=>exact aMJ b s w hI c d k hk o n
 |false=>exact aMK _ w c d k o n
theorem aMR(b:Nat)(s:VS)(w:World)(a:Wh)(ha:iL a)(o:Int)(ho:In64 o)(d:B)(er:Int)(hke:iD a o=(d,er))(he:er≠0) :
  Calls Tryz.prog 111 #[.pointer (some ⟨b,0,none⟩),.agg #[aU a.kind,aU a.b.lo,aU a.b.hi],aU o] w fun e w' =>
   e=.returned (.tuple #[.agg #[aU 0,aU 0,aU 0],aU er])∧Below w.heap.size w w':=by
 refine fU ?_;intro HW0;have C:=bW (fun w=>agk a o ha ho w);have HK:=bW hke;have he2:=aan he;have he3:=sZ he;clear hke he ha ho;go_enter Tryz.func111,Tryz.ntmps111;go_wp2_with fail;refine(C.out _).mono ?_;rw[HK.out];refine Uy ?_;intro w1 hc1 hf1 hz1 HW1 z10 z11;refine aaL ?_;intro zX zZ Af Ah Ai Aj;clear hc1 hf1;go_wp2_with fail;refine bodyPost_ret ?_ rfl ⟨rfl,jZ⟩;exact anx
theorem aMS(b:Nat)(s:VS)(w:World)(k l h:Int)(hk:k=2∨k=4)(ha:B.Ok ⟨l,h⟩)(o:Int)(ho:In64 o)(d:B)(hke:iD ⟨k,⟨l,h⟩⟩ o=(d,0)) :
  Calls Tryz.prog 111 #[.pointer (some ⟨b,0,none⟩),.agg #[aU k,aU l,aU h],aU o] w fun e w' =>
   e=.returned (.tuple #[.agg #[aU 1,aU (-9223372036854775808),aU 9223372036854775807],aU 0])∧Below w.heap.size w w':=by
 refine fU ?_;intro HW0;have C:=bW (fun w=>agk ⟨k,⟨l,h⟩⟩ o ⟨by simp only;omega,ha⟩ ho w);have HK:=bW hke;have t1:=aan (show k≠3 by omega);clear hke ha ho hk;go_enter Tryz.func111,Tryz.ntmps111;go_wp2_with fail;refine(C.out _).mono ?_;rw[HK.out];refine Uy ?_;intro w1 hc1 hf1 hz1 HW1 z10 z11
 (have rQ:w1.cell? ⟨w.heap.size,0,none⟩=some (aU k):=fH;have uM:w1.frozen? ⟨w.heap.size,0,none⟩=false:=fO;have uN:w1.cell? ⟨w.heap.size,1,none⟩=some (aU l):=fH;have uO:w1.frozen? ⟨w.heap.size,1,none⟩=false:=fO;have yU:w1.cell? ⟨w.heap.size,2,none⟩=some (aU h):=fH;have yX:w1.frozen? ⟨w.heap.size,2,none⟩=false:=fO)
 refine aaL ?_;intro zX zZ Af Ah Ai Aj;clear hc1 hf1;go_wp2_with fail;refine(yP _).mono ?_;refine aAX ?_;intro w2 hc2 hf2 hz2 HW2 z20 z21 z22
 (have aML:w2.cell? ⟨w.heap.size+1,0,none⟩=some (aU 0):=aaN;have aMM:w2.frozen? ⟨w.heap.size+1,0,none⟩=false:=aaO;have aMN:w2.cell? ⟨w.heap.size+1,1,none⟩=some (aU 0):=aaN;have aMO:w2.frozen? ⟨w.heap.size+1,1,none⟩=false:=aaO;have aMP:w2.cell? ⟨w.heap.size+1,2,none⟩=some (aU 0):=aaN;have aMQ:w2.frozen? ⟨w.heap.size+1,2,none⟩=false:=aaO)
 clear hc2 hf2;go_wp2_with fail;refine(ajD _ _ _).mono ?_
 (rintro e w3 ⟨rfl,hb⟩;obtain⟨hc3,hf3⟩:=jd hb;have hz3:=hb.size;(try simp at hz3);have HW3:=bW (show Below w.heap.size w w3 from Below.trans Uu (hb.mono fD));clear hb;have z30:w.heap.size<w3.heap.size:=bQ;have z31:w.heap.size+1<w3.heap.size:=bQ;have z32:w.heap.size+1+1<w3.heap.size:=bQ)
 (have aPz:w3.cell? ⟨w.heap.size+1,0,none⟩=some (aU 0):=aup;have aPA:w3.frozen? ⟨w.heap.size+1,0,none⟩=false:=auq;have aPB:w3.cell? ⟨w.heap.size+1,1,none⟩=some (aU 0):=aup;have aPC:w3.frozen? ⟨w.heap.size+1,1,none⟩=false:=auq;have aPD:w3.cell? ⟨w.heap.size+1,2,none⟩=some (aU 0):=aup;have aPE:w3.frozen? ⟨w.heap.size+1,2,none⟩=false:=auq)
 clear hc3 hf3;go_wp2_with fail;refine bodyPost_ret ?_ rfl ⟨rfl,(by repeat' (first|with_reducible (first|exact HW3.out|apply bR|apply bD|apply bN|apply bA|apply bS)|(simp;done)|(simp;omega)|omega))⟩;exact anx
theorem aMT(b:Nat)(s:VS)(w:World)(hI:P.Img w b 81 (gQ fC s))(l h:Int)(ha:B.Ok ⟨l,h⟩)(o:Int)(ho:In64 o)(q:Nat)(hq:q<16)(hke:iD ⟨3,⟨l,h⟩⟩ o=(⟨(q:Int)-16,(q:Int)-16⟩,0))(x:Wh)(hx:s.slots q=x) :
  Calls Tryz.prog 111 #[.pointer (some ⟨b,0,none⟩),.agg #[aU 3,aU l,aU h],aU o] w fun e w' =>
   e=.returned (.tuple #[.agg #[aU (if x.kind=0 then 0 else x.kind),aU (if x.kind=0 then 0 else x.b.lo),aU (if x.kind=0 then 0 else x.b.hi)],aU (if x.kind=0 then 8 else 0)])∧Below w.heap.size w w':=by
 refine KE ?_;intro HW0 hlt;have C:=bW (fun w=>agk ⟨3,⟨l,h⟩⟩ o ⟨by simp,ha⟩ ho w);have HI:=bW hI;have HK:=bW hke;have HX:=bW hx;have q7:(q:Int)<16:=bQ;have e16:(q:Int)-16+16=q:=bQ;clear hI hke ha ho hx;by_cases hz:x.kind=0
 ·simp only[hz,if_true];have hz2:=VF hz;exact aEm
 ·simp only[hz,if_false];have hz2:=sZ hz;exact aEm
theorem aMU{sl:Nat→Wh}{n k:Nat}{acc:B}(h:(sl k).kind=0):wB sl (n+1) k acc=(Wh.nil,8):=by
 unfold wB;rw[dB h]
theorem aMV{sl:Nat→Wh}{n k:Nat}{acc:B}(h:(sl k).kind≠0)(h1:(sl k).kind≠1):wB sl (n+1) k acc=(Wh.nil,1):=by
 unfold wB;rw[dw h,dB h1]
theorem aMW{sl:Nat→Wh}{n k:Nat}{acc:B}(h1:(sl k).kind=1):wB sl (n+1) k acc=wB sl n (k+1) (wU acc (sl k).b):=by
 conv=>lhs;unfold wB
 rw[dw bQ,dw AO]
theorem aMX(b:Nat)(s:VS)(w:World)(hI:P.Img w b 81 (gQ fC s))(l h:Int)(ha:B.Ok ⟨l,h⟩)(o:Int)(ho:In64 o)(q m:Nat)(L H:Int)(hL:L+16=q)(hH:H=L+m-1)(hm:2≤m)(hq:q+m≤16)(hke:iD ⟨3,⟨l,h⟩⟩ o=(⟨L,H⟩,0)) :
  Calls Tryz.prog 111 #[.pointer (some ⟨b,0,none⟩),.agg #[aU 3,aU l,aU h],aU o] w fun e w' =>
   e=.returned (.tuple #[.agg #[aU (wB s.slots m q (s.slots q).b).1.kind,aU (wB s.slots m q (s.slots q).b).1.b.lo,aU (wB s.slots m q (s.slots q).b).1.b.hi],aU (wB s.slots m q (s.slots q).b).2])∧Below w.heap.size w w':=by
 refine KE ?_;intro HW0 hlt;have C:=bW (fun w=>agk ⟨3,⟨l,h⟩⟩ o ⟨by simp,ha⟩ ho w);have HI:=bW hI;have HK:=bW hke;have HH:=bW hH;have HL:=bW hL;have ne:=sZ (show L≠H by omega);have l0:-16≤L:=bQ;have l1:L<0:=bQ;have l2:L≤H:=bQ;have l3:H<0:=bQ;clear hI hke ha ho hH hL;go_enter Tryz.func111,Tryz.ntmps111;go_wp2_with fail;refine atQ ?_;intro w1 hc1 hf1 hz1 HW1 z10 z11 rQ uM uN uO yU yX;have I1:=HI.out.later HW1.out hlt;have R0:w1.cell? ⟨w.heap.size+1,0,none⟩=some (aU 0):=(hc1 (w.heap.size+1) 0 fD).trans oZ;have R1:w1.cell? ⟨w.heap.size+1,1,none⟩=some (aU 0):=(hc1 (w.heap.size+1) 1 fD).trans oZ;have R2:w1.cell? ⟨w.heap.size+1,2,none⟩=some (aU 0):=(hc1 (w.heap.size+1) 2 fD).trans oZ;have F0:w1.frozen? ⟨w.heap.size+1,0,none⟩=false:=(hf1 (w.heap.size+1) 0 fD).trans oZ;have F1:w1.frozen? ⟨w.heap.size+1,1,none⟩=false:=(hf1 (w.heap.size+1) 1 fD).trans oZ;have F2:w1.frozen? ⟨w.heap.size+1,2,none⟩=false:=(hf1 (w.heap.size+1) 2 fD).trans oZ;have HI1:=bW I1;clear hc1 hf1 I1;go_wp2_with fail;have hW0:Below w1.heap.size w1 (World.alloc (World.alloc w1 (.cells #[aU L,aU H] 130)) (.cells #[aU 0,aU 0,aU 0] 190)):=((Below.refl _ _).alloc (Nat.le_refl _) _).alloc dY _;go_loopw [12] (fun k wr=>∃ (i:Nat) (kk:Int) (acc:B),i≤m∧k=aU kk∧kk=L+i∧wB s.slots m q (s.slots q).b=wB s.slots (m-i) (q+i) acc∧(i=0→acc=(s.slots q).b) ∧
   P.Img wr (w1.heap.size+1) 3 (fun j=>if i=0 then aU 0 else fC (Wh.num acc) j)∧wr.cell? ⟨w1.heap.size,0,none⟩=some (aU L)∧wr.cell? ⟨w1.heap.size,1,none⟩=some (aU H)∧Below w1.heap.size w1 wr) (fun k _=>(H+1-intOf k).toNat)
 case atStart =>
  refine⟨0,L,(s.slots q).b,by omega,rfl,by simp,by simp,fun _=>rfl,?_,by simp[go_sem],by simp[go_sem],hW0⟩;refine Img.of_cells aoL iC fun j hj=>?_;exact aur
 case round =>
  obtain⟨i,kk,acc,him,rfl,hkk,hv,hacc,wL,hL0,hL1,hB⟩:=hrel;have HV:=bW hv;have HA:=bW hacc;have LM:=bW wL;have HB:=bW hB;have HKK:=bW hkk;have G0:=(hB.cell (p:=⟨w.heap.size+1,0,none⟩) z11).trans R0;have G1:=(hB.cell (p:=⟨w.heap.size+1,1,none⟩) z11).trans R1;have G2:=(hB.cell (p:=⟨w.heap.size+1,2,none⟩) z11).trans R2;have E0:=(hB.frozen (p:=⟨w.heap.size+1,0,none⟩) z11).trans F0;have E1:=(hB.frozen (p:=⟨w.heap.size+1,1,none⟩) z11).trans F1;have E2:=(hB.frozen (p:=⟨w.heap.size+1,2,none⟩) z11).trans F2;have LD:=bW (HW1.out.trans (hB.mono bQ));have zr:w1.heap.size+1<wr.heap.size:=wL.lt bQ;have y0:=wL.free 0 bQ;have y1:=wL.free 1 bQ;have y2:=wL.free 2 bQ;have zr1:w.heap.size+1<wr.heap.size:=bQ;have zr2:w.heap.size<wr.heap.size:=bQ;have zr3:w1.heap.size<wr.heap.size:=bQ;have zr4:b<wr.heap.size:=bQ;have zn1:¬wr.heap.size=w1.heap.size+1:=bQ;have zn2:¬w1.heap.size+1=wr.heap.size:=bQ;by_cases hlt2:i<m
  ·obtain⟨n,hn⟩:∃ n,m-i=n+1:=⟨m-i-1,by omega⟩;obtain⟨j,hj⟩:∃ j,q+i=j:=⟨_,rfl⟩;have hk:j<16:=bQ;have hll:=aEl (HI1.out.later hB bQ) hk;obtain⟨d0,d1,d2⟩:=hll;have e16:kk+16=(j:Int):=by have:=HL.out;omega
   have k1:kk≤H:=apq;have k2:0≤kk+16:=bQ;have k3:(j:Int)<16:=bQ;have k4:(0:Int)≤(j:Int):=bQ;have s16:IntKind.i64.wrap (kk+16)=(j:Int):=by rw[e16];exact IntWalk.i64_in _ bQ
   have hst:Hid (m-(i+1)=n∧q+(i+1)=j+1∧i+1≤m):=⟨by omega,by omega,by omega⟩;rw[hn,hj]at hv;have HV:=bW hv;have HT:Hid (i=0→kk=L):=fun h=>by rw[hkk,h];simp
   have HT2:Hid (i≠0→kk≠L):=fun h=>by rw[hkk];omega
   have HT3:Hid (i=0→j=q):=fun h=>by omega
   clear hv hacc hB hkk hj hn;by_cases h0:(s.slots j).kind=0
   ·have t0:=VF h0;have hres:=HV.out;rw[aMU h0]at hres;have Qs:=bW hres;clear hres h0 wL;go_wp2_with fail;refine bodyPost_ret (v:=.tuple #[.agg #[aU 0,aU 0,aU 0],aU 8]) ?_ rfl ⟨by rw[Qs.out];rfl,?_⟩
    ·exact anx
    ·exact amM
   ·by_cases h1:(s.slots j).kind=1
    ·have t1:=aEk h1;have t0:=sZ h0;have hres:=HV.out;rw[aMW h1]at hres;have Qs:=bW hres;have h1':=bW h1;clear hres h0 h1;by_cases hi0:i=0
     ·have x0:wr.cell? ⟨w1.heap.size+1,0,none⟩=some (aU 0):=by have:=wL.cell 0 bQ;simpa[hi0]using this
      have x1:wr.cell? ⟨w1.heap.size+1,1,none⟩=some (aU 0):=by have:=wL.cell 1 bQ;simpa[hi0]using this
      have x2:wr.cell? ⟨w1.heap.size+1,2,none⟩=some (aU 0):=by have:=wL.cell 2 bQ;simpa[hi0]using this
      have t2:=VF (HT.out hi0);have HI0:=bW hi0;clear wL hi0;go_wp2_with fail;go_roundw
      case rel =>
       go_light;refine⟨i+1,kk+1,(s.slots j).b,hst.out.2.2,rfl,by have:=HKK.out;push_cast;omega,?_,fun h=>absurd h bQ,?_,by simp[go_sem, *],by simp[go_sem, *],?_⟩
       ·have hjq:=HT3.out HI0.out;rw[hst.out.1,hst.out.2.1,Qs.out,HA.out HI0.out,show s.slots q=s.slots j by rw[hjq],apn]
       ·refine(Img.alloc ((((LM.out.set (j:=0) bQ _).set (j:=1) bQ _).set (j:=2) bQ _)) _).congr fun t ht=>?_;rcases t with _|_|_|t
        ·simp[upd,fC,Wh.num,h1'.out]
        ·simp[upd,fC,Wh.num]
        ·simp[upd,fC,Wh.num]
        ·omega
       ·(repeat' (first|with_reducible exact HB.out|with_reducible refine Below.setCell ?_ ?_ _|with_reducible refine Below.alloc ?_ ?_ _|(simp;done)|(simp;omega)|omega))
      case measure=>simp[intOf];omega
     ·have hx0:=wL.cell 0 bQ;have hx1:=wL.cell 1 bQ;have hx2:=wL.cell 2 bQ;simp only[hi0,if_false]at hx0 hx1 hx2;refine aBd ?_;intro x0 x1 x2;have t2:=sZ (HT2.out hi0);have HI0:=bW hi0;clear wL hi0 hx0 hx1 hx2;go_wp2_with fail;refine(ajj _ _ _ _ _).mono ?_;rintro e w2 ⟨rfl,hb2⟩;have HX2:=bW (Below.trans (Below.alloc (Below.refl w1.heap.size wr) bQ _) (hb2.mono eU));have hz2:=hb2.size;simp at hz2;have zz1:w1.heap.size+1<(World.alloc wr (.cells #[aU (s.slots j).kind,aU (s.slots j).b.lo,aU (s.slots j).b.hi] 190)).heap.size:=eU;have zz2:w1.heap.size<(World.alloc wr (.cells #[aU (s.slots j).kind,aU (s.slots j).b.lo,aU (s.slots j).b.hi] 190)).heap.size:=eU;have I2:=(LM.out.alloc (.cells #[aU (s.slots j).kind,aU (s.slots j).b.lo,aU (s.slots j).b.hi] 190)).later hb2 zz1;have u1:=I2.cell 1 bQ;have u2:=I2.cell 2 bQ;have v1:=I2.free 1 bQ;have v2:=I2.free 2 bQ;have HI2:=bW I2;have b0:w2.cell? ⟨w1.heap.size,0,none⟩=some (aU L):=(hb2.cell (p:=⟨w1.heap.size,0,none⟩) zz2).trans CG;have b1:w2.cell? ⟨w1.heap.size,1,none⟩=some (aU H):=(hb2.cell (p:=⟨w1.heap.size,1,none⟩) zz2).trans CG;clear hb2 I2 zz1 zz2;go_wp2_with fail;go_roundw
      case rel =>
       go_light;refine⟨i+1,kk+1,wU acc (s.slots j).b,hst.out.2.2,rfl,by have:=HKK.out;push_cast;omega,?_,fun h=>absurd h bQ,?_,by simp[go_sem, *],by simp[go_sem, *],?_⟩
       ·rw[hst.out.1,hst.out.2.1,Qs.out]
       ·refine(((HI2.out.set (j:=1) bQ _).set (j:=2) bQ _)).congr fun t ht=>?_;have:=HI0.out;rcases t with _|_|_|t
        ·simp[upd,fC,Wh.num,this]
        ·simp[upd,fC,Wh.num,wU]
        ·simp[upd,fC,Wh.num,wU]
        ·omega
       ·(repeat' (first|with_reducible exact HB.out.trans HX2.out|with_reducible exact HX2.out|with_reducible refine Below.setCell ?_ ?_ _|with_reducible refine Below.alloc ?_ ?_ _|(simp;done)|(simp;omega)|omega))
      case measure=>simp[intOf];omega
    ·have t1:=aan h1;have t0:=sZ h0;have hres:=HV.out;rw[aMV h0 h1]at hres;have Qs:=bW hres;clear hres h0 h1 wL;go_wp2_with fail;refine bodyPost_ret (v:=.tuple #[.agg #[aU 0,aU 0,aU 0],aU 1]) ?_ rfl ⟨by rw[Qs.out];rfl,?_⟩
     ·exact anx
     ·exact amM
  ·obtain rfl:i=m:=bQ;have hx0:=wL.cell 0 bQ;have hx1:=wL.cell 1 bQ;have hx2:=wL.cell 2 bQ;have hi0:¬i=0:=bQ;simp only[hi0,if_false]at hx0 hx1 hx2;refine aBd ?_;intro x0 x1 x2;have k1:¬kk≤H:=apq;have hres:=HV.out;rw[Nat.sub_self]at hres;have Qs:Hid (wB s.slots i q (s.slots q).b=(Wh.num acc,0)):=hres;clear hv hacc hB hkk wL hx0 hx1 hx2 hres;go_wp2_with fail;refine bodyPost_ret (v:=.tuple #[.agg #[aU 1,aU acc.lo,aU acc.hi],aU 0]) ?_ rfl ⟨by rw[Qs.out];rfl,?_⟩
   ·exact anx
   ·exact amM
theorem aMY(b:Nat)(s:VS)(w:World)(hI:P.Img w b 81 (gQ fC s))(a:Wh)(ha:iL a)(o:Int)(ho:In64 o) :
  Calls Tryz.prog 111 #[.pointer (some ⟨b,0,none⟩),.agg #[aU a.kind,aU a.b.lo,aU a.b.hi],aU o] w fun e w' =>
   e=.returned (.tuple #[.agg #[aU (s.load a o).1.kind,aU (s.load a o).1.b.lo,aU (s.load a o).1.b.hi],aU (s.load a o).2])∧Below w.heap.size w w':=by
 by_cases he:(iD a o).2=0
 ·have hk:=acH ha he;obtain⟨-,hlo,hhi⟩:=agI ha he;have hok:=aps ha ho;unfold VS.load;rw[dw aeJ];obtain⟨k,⟨l,h⟩⟩:=a;simp only at hk;generalize hv:iD ⟨k,⟨l,h⟩⟩ o=v at *;obtain⟨⟨L,H⟩,er⟩:=v;simp only at he hlo hhi hok ⊢;subst he;by_cases h3:k=3
  ·subst h3;rw[dw dY];simp only[low,high,if_true]at hlo hhi;have Zc:=hok.2.2;simp only at Zc;by_cases hl:L=H
   ·subst hl;rw[dB rfl];refine amN ?_;intro q hq;have e:(L+16).toNat=q:=bQ;rw[e];obtain rfl:L=(q:Int)-16:=bQ;refine(aMT b s w hI l h ha.2 o ho q bQ hv (s.slots q) rfl).mono fun e w' he=>⟨he.1.trans ?_,he.2⟩;split<;>rfl
   ·rw[dw hl];refine amN ?_;intro q hq;obtain⟨m,hm⟩:=Int.eq_ofNat_of_zero_le (show 0≤H-L+1 by omega);have e:(L+16).toNat=q:=bQ;have e2:(H-L+1).toNat=m:=bQ;rw[e,e2];exact aMX b s w hI l h ha.2 o ho q m L H hq bQ bQ bQ hv
  ·rw[dB h3];exact aMS b s w k l h bQ ha.2 o ho _ hv
 ·have e:s.load a o=(.nil,(iD a o).2):=by unfold VS.load;rw[dB he]
  rw[e];exact aMR b s w a ha o ho (iD a o).1 (iD a o).2 rfl he
theorem aMZ(b:Nat)(w:World)(a x:Wh)(ha:iL a)(o:Int)(ho:In64 o)(d:B)(er:Int)(hke:iD a o=(d,er))(he:er≠0) :
  Calls Tryz.prog 112 #[.pointer (some ⟨b,0,none⟩),.agg #[aU a.kind,aU a.b.lo,aU a.b.hi],aU o,.agg #[aU x.kind,aU x.b.lo,aU x.b.hi]] w fun e w' =>
   e=.returned (aU er)∧Below w.heap.size w w':=by
 refine fU ?_;intro HW0;have C:=bW (fun w=>agk a o ha ho w);have HK:=bW hke;have he2:=aan he;clear hke he ha ho;go_enter Tryz.func112,Tryz.ntmps112;go_wp2_with fail;refine(C.out _).mono ?_;rw[HK.out];refine Uy ?_;intro w1 hc1 hf1 hz1 HW1 z10 z11;exact aqV
theorem aop(b:Nat)(w:World)(k l h:Int)(x:Wh)(ha:B.Ok ⟨l,h⟩)(hk:k=2∨k=3∨k=4)(o:Int)(ho:In64 o)(L H r:Int)(hke:iD ⟨k,⟨l,h⟩⟩ o=(⟨L,H⟩,0))
  (hr:(k=2∧r=6)∨(k≠2∧x.kind=0∧r=8)∨(k=4∧x.kind≠0∧x.kind≠1∧r=1)∨(k=4∧x.kind=1∧r=0)∨(k=3∧x.kind≠0∧L≠H∧r=2)) :
  Calls Tryz.prog 112 #[.pointer (some ⟨b,0,none⟩),.agg #[aU k,aU l,aU h],aU o,.agg #[aU x.kind,aU x.b.lo,aU x.b.hi]] w fun e w' =>
   e=.returned (aU r)∧Below w.heap.size w w':=by
 refine fU ?_;intro HW0;have C:=bW (fun w=>agk ⟨k,⟨l,h⟩⟩ o ⟨by simp only;omega,ha⟩ ho w);have HK:=bW hke;clear hke ha ho;obtain⟨xk,⟨xl,xh⟩⟩:=x;simp only at hr;rcases hr with ⟨rfl,rfl⟩|⟨h2,rfl,rfl⟩|⟨rfl,h0,h1,rfl⟩|⟨rfl,rfl,rfl⟩|⟨rfl,h0,h1,rfl⟩
 all_goals (try (have t0:=sZ h0));(try (have t1:=aan h1));(try (have t2:=sZ h2));(try clear h0);(try clear h1);(try clear h2)
 all_goals
  clear hk;go_enter Tryz.func112,Tryz.ntmps112;go_wp2_with fail;refine(C.out _).mono ?_;rw[HK.out];rintro e w1 ⟨rfl,hb⟩;refine apo ?_;intro hc1 hf1 hz1 HW1;clear hb;refine aoK ?_;intro z10 z11;have A0:=(hc1 w.heap.size 0 fD).trans (show _=some _ by simp[go_sem];rfl);have B0:=(hc1 (w.heap.size+1) 0 fD).trans (show _=some _ by simp[go_sem];rfl);clear hc1 hf1;go_wp2_with fail;go_ret
  exact⟨rfl,jZ⟩
theorem aM0(b:Nat)(s:VS)(w:World)(hI:P.Img w b 81 (gQ fC s))(l h:Int)(ha:B.Ok ⟨l,h⟩)(o:Int)(ho:In64 o)(x:Wh)(hx:x.kind≠0)(q:Nat)(hq:q<16)(hke:iD ⟨3,⟨l,h⟩⟩ o=(⟨(q:Int)-16,(q:Int)-16⟩,0)) :
  Calls Tryz.prog 112 #[.pointer (some ⟨b,0,none⟩),.agg #[aU 3,aU l,aU h],aU o,.agg #[aU x.kind,aU x.b.lo,aU x.b.hi]] w fun e w' =>
   e=.returned (aU 0)∧P.Img w' b 81 (gQ fC { s with slots:=upd s.slots q x})∧But b w w':=by
 refine KE ?_;intro HW0 hlt;have C:=bW (fun w=>agk ⟨3,⟨l,h⟩⟩ o ⟨by simp,ha⟩ ho w);have q7:(q:Int)<16:=bQ;have HI:=bW hI;have HK:=bW hke;clear hI hke ha ho;have e16:(q:Int)-16+16=q:=bQ;have e3:=sZ hx;clear hx;obtain⟨xk,⟨xl,xh⟩⟩:=x;simp only at e3 ⊢;go_enter Tryz.func112,Tryz.ntmps112;go_wp2_with fail;refine atQ ?_;intro w1 hc1 hf1 hz1 HW1 z10 z11 rQ uM uN uO yU yX
 (have zX:w1.cell? ⟨w.heap.size+1,0,none⟩=some (aU xk):=fH;have zZ:w1.frozen? ⟨w.heap.size+1,0,none⟩=false:=fO;have Af:w1.cell? ⟨w.heap.size+1,1,none⟩=some (aU xl):=fH;have Ah:w1.frozen? ⟨w.heap.size+1,1,none⟩=false:=fO;have Ai:w1.cell? ⟨w.heap.size+1,2,none⟩=some (aU xh):=fH;have Aj:w1.frozen? ⟨w.heap.size+1,2,none⟩=false:=fO)
 have I1:=HI.out.later HW1.out hlt;have d0:=I1.cell (33+q*3) bQ;have d1:=I1.cell (33+q*3+1) bQ;have d2:=I1.cell (33+q*3+2) bQ;have s0:=I1.free (33+q*3) bQ;have s1:=I1.free (33+q*3+1) bQ;have s2:=I1.free (33+q*3+2) bQ;have YJ:b<w1.heap.size:=I1.lt bQ;have YB:b<w1.heap.size+1:=bQ;have HI1:=bW I1;clear hc1 hf1 I1;go_wp2_with fail;go_region;all_goals
  go_wp2_with fail;go_ret
  refine⟨rfl,?_,at7⟩;have K:=fun o=>Img.alloc ((((HI1.out.set (j:=33+q*3) bQ (fC ⟨xk,⟨xl,xh⟩⟩ 0)).set (j:=33+q*3+1) bQ (fC ⟨xk,⟨xl,xh⟩⟩ 1)).set (j:=33+q*3+2) bQ (fC ⟨xk,⟨xl,xh⟩⟩ 2)).congr (aCt hq ⟨xk,⟨xl,xh⟩⟩)) o;first|exact K _|exact(K _).drew
theorem aM1(b:Nat)(s:VS)(w:World)(hI:P.Img w b 81 (gQ fC s))(a:Wh)(ha:iL a)(o:Int)(ho:In64 o)(x:Wh) :
  Calls Tryz.prog 112 #[.pointer (some ⟨b,0,none⟩),.agg #[aU a.kind,aU a.b.lo,aU a.b.hi],aU o,.agg #[aU x.kind,aU x.b.lo,aU x.b.hi]] w fun e w' =>
   e=.returned (aU (s.store a o x).2)∧P.Img w' b 81 (gQ fC (s.store a o x).1)∧But b w w':=by
 have hlt:=hI.lt bQ;have flat:∀ {r:Int} {w':World} {e:Ending},e=.returned (aU r)∧Below w.heap.size w w'→e=.returned (aU r)∧P.Img w' b 81 (gQ fC s)∧But b w w':=fun h=>⟨h.1,hI.later h.2 hlt,But.of h.2⟩;by_cases he:(iD a o).2=0
 ·have hk:=acH ha he;obtain⟨-,hlo,hhi⟩:=agI ha he;have hok:=aps ha ho;unfold VS.store;rw[dw aeJ];obtain⟨k,⟨l,h⟩⟩:=a;simp only at hk;generalize hv:iD ⟨k,⟨l,h⟩⟩ o=v at *;obtain⟨⟨L,H⟩,er⟩:=v;simp only at he hlo hhi hok ⊢;subst he;by_cases h2:k=2
  ·rw[dB h2];exact(aop b w k l h x ha.2 hk o ho L H 6 hv (.inl ⟨h2,rfl⟩)).mono fun e w'=>flat
  rw[dw h2];by_cases h0:x.kind=0
  ·rw[dB h0];exact(aop b w k l h x ha.2 hk o ho L H 8 hv (.inr (.inl ⟨h2,h0,rfl⟩))).mono fun e w'=>flat
  rw[dw h0];by_cases h4:k=4
  ·by_cases h1:x.kind=1
   ·rw[dw bQ,dB h4];exact(aop b w k l h x ha.2 hk o ho L H 0 hv (.inr (.inr (.inr (.inl ⟨h4,h1,rfl⟩))))).mono fun e w'=>flat
   ·rw[dB ⟨h4,h1⟩];exact(aop b w k l h x ha.2 hk o ho L H 1 hv (.inr (.inr (.inl ⟨h4,h0,h1,rfl⟩)))).mono fun e w'=>flat
  rw[dw bQ,dw h4];have h3:k=3:=bQ;subst h3;by_cases hl:L=H
  ·subst hl;rw[dw dY];simp only[low,high,if_true]at hlo hhi;refine amN ?_;intro q hq;have e:(L+16).toNat=q:=bQ;rw[e];obtain rfl:L=(q:Int)-16:=bQ;exact aM0 b s w hI l h ha.2 o ho x h0 q bQ hv
  ·rw[dB hl];exact(aop b w 3 l h x ha.2 hk o ho L H 2 hv (.inr (.inr (.inr (.inr ⟨rfl,h0,hl,rfl⟩))))).mono fun e w'=>flat
 ·have e:s.store a o x=(s,(iD a o).2):=by unfold VS.store;rw[dB he]
  rw[e];exact(aMZ b w a x ha o ho (iD a o).1 (iD a o).2 rfl he).mono fun e w'=>flat
theorem atW{α:Type}(f:Nat→α)(i:Nat)(u v:α):upd (upd f i u) i v=upd f i v:=by
 exact asw
def Qz(f:Nat→Wh)(k:Nat):Nat→Wh:=fun j=>if 1≤j∧j<k then Wh.nil else f j
theorem avP(f:Nat→Wh):Qz f 1=f:=by funext j;unfold Qz;rw[dw bQ]
theorem aFt(f:Nat→Wh){k:Nat}(hk:1≤k):upd (Qz f k) k Wh.nil=Qz f (k+1):=by
 funext j
 by_cases h:j=k
 ·subst h;rw[upd_same];unfold Qz;rw[dB bQ]
 ·rw[fB h];unfold Qz;exact auv
def arF(n:Int):Wh:=if n=1 then⟨5,eH 0⟩else if n=3 then .num (eH 0)else .num fP
theorem aM2{s:VS}{n:Int}(h:n=2∨(s.regs 1).kind=1):s.call n=({ s with regs:=upd (Qz s.regs 6) 0 (arF n)},0):=by
 unfold VS.call;rw[dw bQ,dw bQ];congr 2
 funext j
 by_cases h0:j=0
 ·exact amK
 ·rw[fB h0,dw h0];unfold Qz;simp only[Nat.lt_succ_iff]
theorem aM3(b:Nat)(s:VS)(w:World)(hI:P.Img w b 81 (gQ fC s))(n:Int)(hn:n≠2)(x:Wh)(hx:s.regs 1=x)(hk:x.kind≠1) :
  Calls Tryz.prog 114 #[.pointer (some ⟨b,0,none⟩),aU n] w fun e w'=>e=.returned (aU (if x.kind=0 then 8 else 1))∧Below w.heap.size w w':=by
 refine fU ?_;intro HW0;obtain⟨c0,c1,c2⟩:=acs hI (bQ:1<11);rw[hx]at c0 c1 c2;have HI:=bW hI;have HX:=bW hx;clear hI hx;have n2:=aan hn;have k2:=sZ hk;clear hn hk;by_cases k1:x.kind=0
 ·rw[dB k1];have q1:=VF k1;clear k1;go_enter Tryz.func114,Tryz.ntmps114;exact YG
 ·rw[dw k1];have q1:=sZ k1;clear k1;go_enter Tryz.func114,Tryz.ntmps114;exact YG
theorem aM4(b:Nat)(s:VS)(w:World)(hI:P.Img w b 81 (gQ fC s))(x:Wh)(hx:s.regs 1=x)(hk:x.kind=1) :
  Calls Tryz.prog 114 #[.pointer (some ⟨b,0,none⟩),aU 1] w fun e w'=>e=.returned (aU 0)∧P.Img w' b 81 (gQ fC { s with regs:=upd (Qz s.regs 6) 0 (arF 1)})∧But b w w':=by
 refine KE ?_;intro HW0 hlt;obtain⟨c0,c1,c2⟩:=acs hI (bQ:1<11);rw[hx]at c0 c1 c2;have HI:=bW hI;clear hI hx;have q1:=VF hk;have q0:=sZ (show x.kind≠0 by omega);clear hk;refine atP ?_;intro CA CN CO;go_enter Tryz.func114,Tryz.ntmps114;go_wp2_with fail;go_loopw [6] (fun i wr=>∃ k:Nat,1≤k∧k≤6∧i=aU k∧P.Img wr b 81 (gQ fC { s with regs:=Qz s.regs k})∧But b w wr) (fun i _=>6-(intOf i).toNat)
 case atStart=>exact⟨1,by omega,by omega,rfl,by rw[avP];exact HI.out.alloc _,ajE⟩
 case round =>
  obtain⟨k,hk1,hk6,rfl,hI,hB⟩:=hrel;by_cases h:k≤5
  ·exact asc
  ·obtain rfl:k=6:=bQ;have HI1:=bW hI;have HB1:=bW hB;have zb:=hI.lt bQ;clear hI hB;go_wp2_with fail;refine OD 6 dF dF ?_;repeat (quiet_step (first|exact CA.out _ _ _|exact CN.out _ _ _ _ _))
   refine aua ?_;intro wq qN qA d0 d1 d2 s0 s1 s2;go_wp2_with fail;refine aAa ?_;intro wx Uj HB2;clear d0 d1 d2 s0 s1 s2;have zx:=Uj.out.lt bQ;refine OD 6 dF dF ?_;repeat (quiet_step (first|exact CO.out _ _ _|exact CN.out _ _ _ _ _))
   refine aAS ?_;intro wz Ux UN d0 d1 d2 s0 s1 s2;go_wp2_with fail;go_ret
   refine⟨rfl,?_,?_⟩
   ·have K:=(((Ux.out.set (j:=0) bQ (fC (⟨5,eH 0⟩:Wh) 0)).set (j:=1) bQ (fC (⟨5,eH 0⟩:Wh) 1)).set (j:=2) bQ (fC (⟨5,eH 0⟩:Wh) 2)).congr (Oy (bQ:0<11) (⟨5,eH 0⟩:Wh));dsimp only at K;rw[atW]at K;exact K
   ·exact aBJ
theorem aM5(b:Nat)(s:VS)(w:World)(hI:P.Img w b 81 (gQ fC s))(x:Wh)(hx:s.regs 1=x) :
  Calls Tryz.prog 114 #[.pointer (some ⟨b,0,none⟩),aU 2] w fun e w'=>e=.returned (aU 0)∧P.Img w' b 81 (gQ fC { s with regs:=upd (Qz s.regs 6) 0 (arF 2)})∧But b w w':=by
 refine KE ?_;intro HW0 hlt;obtain⟨c0,c1,c2⟩:=acs hI (bQ:1<11);rw[hx]at c0 c1 c2;have HI:=bW hI;clear hI hx;refine atP ?_;intro CA CN CO;go_enter Tryz.func114,Tryz.ntmps114;go_wp2_with fail;go_loopw [6] (fun i wr=>∃ k:Nat,1≤k∧k≤6∧i=aU k∧P.Img wr b 81 (gQ fC { s with regs:=Qz s.regs k})∧But b w wr) (fun i _=>6-(intOf i).toNat)
 case atStart=>exact⟨1,by omega,by omega,rfl,by rw[avP];exact HI.out.alloc _,ajE⟩
 case round =>
  obtain⟨k,hk1,hk6,rfl,hI,hB⟩:=hrel;by_cases h:k≤5
  ·exact asc
  ·obtain rfl:k=6:=bQ;have HI1:=bW hI;have HB1:=bW hB;have zb:=hI.lt bQ;clear hI hB;go_wp2_with fail;refine OD 6 dF dF ?_;repeat (quiet_step (first|exact CA.out _ _ _|exact CN.out _ _ _ _ _))
   refine aua ?_;intro wq qN qA d0 d1 d2 s0 s1 s2;go_wp2_with fail;go_ret
   refine⟨rfl,?_,?_⟩
   ·have K:=(((qN.out.set (j:=0) bQ (fC (.num fP) 0)).set (j:=1) bQ (fC (.num fP) 1)).set (j:=2) bQ (fC (.num fP) 2)).congr (Oy (bQ:0<11) (.num fP));exact K
   ·exact((qA.out.setCell (.inl rfl) _).setCell (.inl rfl) _).setCell (.inl rfl) _
theorem aM6(b:Nat)(s:VS)(w:World)(hI:P.Img w b 81 (gQ fC s))(x:Wh)(hx:s.regs 1=x)(hk:x.kind=1) :
  Calls Tryz.prog 114 #[.pointer (some ⟨b,0,none⟩),aU 3] w fun e w'=>e=.returned (aU 0)∧P.Img w' b 81 (gQ fC { s with regs:=upd (Qz s.regs 6) 0 (arF 3)})∧But b w w':=by
 refine KE ?_;intro HW0 hlt;obtain⟨c0,c1,c2⟩:=acs hI (bQ:1<11);rw[hx]at c0 c1 c2;have HI:=bW hI;clear hI hx;have q1:=VF hk;have q0:=sZ (show x.kind≠0 by omega);clear hk;refine atP ?_;intro CA CN CO;go_enter Tryz.func114,Tryz.ntmps114;go_wp2_with fail;go_loopw [6] (fun i wr=>∃ k:Nat,1≤k∧k≤6∧i=aU k∧P.Img wr b 81 (gQ fC { s with regs:=Qz s.regs k})∧But b w wr) (fun i _=>6-(intOf i).toNat)
 case atStart=>exact⟨1,by omega,by omega,rfl,by rw[avP];exact HI.out.alloc _,ajE⟩
 case round =>
  obtain⟨k,hk1,hk6,rfl,hI,hB⟩:=hrel;by_cases h:k≤5
  ·exact asc
  ·obtain rfl:k=6:=bQ;have HI1:=bW hI;have HB1:=bW hB;have zb:=hI.lt bQ;clear hI hB;go_wp2_with fail;refine OD 6 dF dF ?_;repeat (quiet_step (first|exact CA.out _ _ _|exact CN.out _ _ _ _ _))
   refine aua ?_;intro wq qN qA d0 d1 d2 s0 s1 s2;go_wp2_with fail;refine aAa ?_;intro wx Uj HB2;clear d0 d1 d2 s0 s1 s2;have zx:=Uj.out.lt bQ;refine OD 6 dF dF ?_;repeat (quiet_step (first|exact CO.out _ _ _|exact CN.out _ _ _ _ _))
   refine aAS ?_;intro wz Ux UN d0 d1 d2 s0 s1 s2;go_wp2_with fail;go_ret
   refine⟨rfl,?_,?_⟩
   ·have K:=(((Ux.out.set (j:=0) bQ (fC (.num (eH 0)) 0)).set (j:=1) bQ (fC (.num (eH 0)) 1)).set (j:=2) bQ (fC (.num (eH 0)) 2)).congr (Oy (bQ:0<11) (.num (eH 0)));dsimp only at K;rw[atW]at K;exact K
   ·exact aBJ
theorem aM7(b:Nat)(s:VS)(w:World)(hI:P.Img w b 81 (gQ fC s))(n:Int)(hn:1≤n∧n≤3) :
  Calls Tryz.prog 114 #[.pointer (some ⟨b,0,none⟩),aU n] w fun e w'=>e=.returned (aU (s.call n).2)∧P.Img w' b 81 (gQ fC (s.call n).1)∧But b w w':=by
 have hlt:=hI.lt bQ;by_cases h:n=2∨(s.regs 1).kind=1
 ·rw[aM2 h];have hn':n=1∨n=2∨n=3:=bQ;rcases hn' with rfl|rfl|rfl
  ·exact aM4 b s w hI _ rfl bQ
  ·exact aM5 b s w hI _ rfl
  ·exact aM6 b s w hI _ rfl bQ
 ·have e:s.call n=(s,if(s.regs 1).kind=0 then 8 else 1):=by
   unfold VS.call;by_cases h0:(s.regs 1).kind=0
   ·rw[dB ⟨by omega,h0⟩,dB h0]
   ·rw[dw bQ,dB bQ,dw h0]
  rw[e];exact(aM3 b s w hI n bQ _ rfl bQ).mono fun e w' h=>⟨h.1,hI.later h.2 hlt,But.of h.2⟩
theorem ZB{w:World}{b:Nat}{v:Wh}(hI:P.Img w b 3 (fC v)):w.cell? ⟨b,0,none⟩=some (aU v.kind)∧w.cell? ⟨b,1,none⟩=some (aU v.b.lo)∧w.cell? ⟨b,2,none⟩=some (aU v.b.hi) :=
 ⟨hI.cell 0 bQ,hI.cell 1 bQ,hI.cell 2 bQ⟩
theorem w3{w:World}{b:Nat}{v:Wh}{I:Nat→Value}(hI:P.Img w b 3 I):P.Img (((w.setCell ⟨b,0,none⟩ (aU v.kind)).setCell ⟨b,1,none⟩ (aU v.b.lo)).setCell ⟨b,2,none⟩ (aU v.b.hi)) b 3 (fC v):=by
 refine(((hI.set (j:=0) bQ _).set (j:=1) bQ _).set (j:=2) bQ _).congr fun j hj=>?_;exact aur
def Ew(code:Value)(k:Wk):Nat→Value:=fun j=>if j=0 then code else if j=1 then aU k.looks else if j=2 then .bool (!k.ends.isEmpty)else if j=3 then aU (outOf k.ends).lo else aU (outOf k.ends).hi
def aEn(b:Nat)(code:Value)(w:World)(r:VR)(e:Ending)(w':World):Prop:=∃ v,e=.returned v∧rC w' v r.1.1 r.1.2∧P.Img w' b 5 (Ew code r.2)∧But b w w'
def WalkC(S:Nat→Step)(a:Addr)(n cap b f:Nat):Prop:=∀ (s:VS) (pc:Nat) (k:Wk) (w:World),kG s→pc<n→n≤pc+f→0≤k.looks→k.looks≤4000→(∀ e∈k.ends,e.Ok)→Cells w a S n →
 P.Img w b 5 (Ew (.slice (some a) n cap) k) →
 Calls Tryz.prog 77 #[.pointer (some ⟨b,0,none⟩),.agg (iK fC s).toArray,aU pc] w (aEn b (.slice (some a) n cap) w (iO S f s pc k))
theorem VK(s:VS):(Tryz.prog.info? 194).map (·.size)=some (iK fC s).length:=by rw[ajv];kernel_rfl
theorem awz(s:VS):(Tryz.prog.info? 194).map (·.size)=some (iK fC s).toArray.size:=acD
theorem awC(s:VS):(iK fC s).toArray.all (·.oneCell')=true:=by
 refine all_oneCell_toArray fun v hv=>?_;unfold iK at hv;obtain⟨j,-,rfl⟩:=List.mem_map.1 hv;unfold gQ fC;split<;>rfl
theorem awD{w:World}{b:Nat}{s:VS}(ht:w.there b 0 (iK fC s).toArray.size):P.Img (w.setCells b 0 (iK fC s).toArray.toList) b 81 (gQ fC s):=by
 have ht':w.there b 0 (iK fC s).length:=by simpa using ht
 intro j hj;have h:=World.rangeAt_setCells_same w b 0 (iK fC s) ht' j (gQ fC s j) (apF hj);exact azJ
theorem rC.nil0{w:World}{v:Value}{n p:Int}(h:rC w v n p)(hn:n=0):v=.nilIface:=by
 rcases h with ⟨h,-,-⟩|⟨h,-⟩|⟨h,-⟩
 ·exact h
 ·exact absurd hn h
 ·exact absurd hn h
theorem rC.noIface{w:World}{v:Value}{n p:Int}(h:rC w v n p)(hn:n≠0):∃ t x,v=.iface t x:=by
 exact aA0
theorem aM8(S:Nat→Step)(a:Addr)(n cap b f:Nat)(hcap:n≤cap)(hn2:n≤200)(hab:a.block≠b)(IH:WalkC S a n cap b f)(Uh:∀ j,j<n→Ue n j (S j))(s:VS)(pc:Nat)(k:Wk)(w:World)(hs:kG s)(hpc:pc<n)(hf:n≤pc+1+f)(hk0:0≤k.looks)(hk1:k.looks≤4000)(hke:∀ e∈k.ends,e.Ok)
  (hc:Cells w a S n) (hI:P.Img w b 5 (Ew (.slice (some a) n cap) k)) (ht:Ue n pc (S pc)) (hw:(S pc).wrong=0) (hca:15≤(S pc).code∧(S pc).code≤24) :
  Calls Tryz.prog 110 #[.pointer (some ⟨b,0,none⟩),.agg (iK fC s).toArray,aU pc] w (aEn b (.slice (some a) n cap) w (J4 (iO S f) pc k (s.asks (S pc) pc))):=by
 refine KE ?_;intro HW0 hlt;have c0:w.cell? ⟨b,0,none⟩=some (.slice (some a) n cap):=hI.cell 0 bQ;obtain⟨e0,e1,e2,e3,e4,e5⟩:=hc pc hpc;have l0:=block_lt_of_cell e0;have hin:In64 (S pc).num:=ht.2.2;generalize hT:S pc=t at *;obtain⟨c,d,sr,r,o,nn⟩:=t;obtain⟨g1,g2,g3,g4⟩:=aeh hw;simp only at g1 g2 g3 g4 hca e0 e1 e2 e3 e4 e5 hin;obtain⟨d,rfl⟩:=Int.eq_ofNat_of_zero_le g2.1;obtain⟨sr,rfl⟩:=Int.eq_ofNat_of_zero_le g2.2.2.1;refine aoR ?_;intro dN sN d1 s1;have pc1:(pc:Int)<n:=bQ;have pc2:(pc:Int)<200:=bQ;have pc0:(0:Int)≤pc:=bQ;have HI:=bW hI;have HIH:=bW IH;have HP:=bW Uh;have Ho:=bW hke;have HS:=bW hs;have HC:=bW hc;have HTT:=bW ht;obtain⟨R,hR⟩:∃ R,s.asks ⟨c,d,sr,r,o,nn⟩ pc=R:=⟨_,rfl⟩;rw[hR];have HR:=bW hR;clear hI IH hs hc ht hw hT hR Uh hke;go_enter Tryz.func110,Tryz.ntmps110;go_upto_region 2 with fail;go_cut [8,9] (fun p8 p9 wx=>∃ A B:Nat,p8=.pointer (some ⟨A,0,none⟩)∧p9=.pointer (some ⟨B,0,none⟩)∧w.heap.size+1<A∧w.heap.size+1<B∧P.Img wx A 3 (fC (s.regs d))∧P.Img wx B 3 (fC (s.second ⟨c,d,sr,r,o,nn⟩))∧P.Img wx (w.heap.size+1) 6 (aei ⟨c,d,sr,r,o,nn⟩)∧P.Img wx w.heap.size 81 (gQ fC s)∧Below w.heap.size w wx)
 case first =>
  as_aux_lemma =>
   generalize hW:World.alloc (World.alloc w _) _=wd;have IS:P.Img wd w.heap.size 81 (gQ fC s):=hW▸Img.al7.alloc _;have IT:P.Img wd (w.heap.size+1) 6 (aei ⟨c,d,sr,r,o,nn⟩):=by
    rw[←hW];refine Img.of_cells al8 iC fun j hj=>?_;exact asx
   have HB1:=bW (show Below w.heap.size w wd from hW▸gI);clear hW;obtain⟨f0,f1,f2,f3,f4,f5⟩:=zM IT;obtain⟨x0,x1,x2⟩:=acs IS dN;simp only at f0 f1 f2 f3 f4 f5;have zs:=IS.lt bQ;have zt:=IT.lt bQ;have k0:=cell_regrown f0;have k1:=cell_regrown f1;have k2:=cell_regrown f2;have k3:=cell_regrown f3;have k4:=cell_regrown f4;have k5:=cell_regrown f5;have k6:=cell_regrown x0;have k7:=cell_regrown x1;have k8:=cell_regrown x2;have C2:=bW (show ∀ dr os,Calls Tryz.prog 113 #[.pointer (some ⟨w.heap.size,0,none⟩),.agg #[aU c,aU d,aU sr,.bool r,aU o,aU nn]] (Go.Sort.grow (redrawn wd dr) os) fun e w'=>e=.returned (.agg #[aU (s.second ⟨c,d,sr,r,o,nn⟩).kind,aU (s.second ⟨c,d,sr,r,o,nn⟩).b.lo,aU (s.second ⟨c,d,sr,r,o,nn⟩).b.hi])∧XH (Go.Sort.grow (redrawn wd dr) os) w' from fun dr os=>avO w.heap.size s _ (IS.later (below_regrown wd dr os) zs) c d sr r o nn sN);have HIS:=bW IS;have HIT:=bW IT;generalize s.second ⟨c,d,sr,r,o,nn⟩=y at *;generalize s.regs d=x at *;clear IS IT f0 f1 f2 f3 f4 f5 x0 x1 x2;refine ayz 9 7 8 8 9 190 190 (.cells #[aU 0,aU 0,aU 0] 190 (0,0)) (.cells #[aU 0,aU 0,aU 0] 190 (0,0)) dF dF dF dF dF dF dF dF dS (fun _=>rfl) (fun w=>by kernel_rfl) (fun w=>by kernel_rfl) ?_
   (repeat (first|refine asY iC ?_|(refine asZ iC (fun K hK=>?_);go_simp;first|(refine hK _ ?_;clear hK K)|(apply Exists.intro;refine⟨fun _=>?_,hK _ ?_⟩;(exact C2.out _ _);clear hK K))))
   refine as1 ?_;intro A B wq hbq hA hzA hB Gt hAB;have IA:=Img.zero3 hzA;have IB:=Img.zero3 Gt;have a0:=IA.cell 0 bQ;have a1:=IA.cell 1 bQ;have a2:=IA.cell 2 bQ;have b0:=IB.cell 0 bQ;have b1:=IB.cell 1 bQ;have b2:=IB.cell 2 bQ;have r0:=IA.free 0 bQ;have r1:=IA.free 1 bQ;have r2:=IA.free 2 bQ;have t0:=IB.free 0 bQ;have t1:=IB.free 1 bQ;have t2:=IB.free 2 bQ;have YL:=bW IA;have HIB:=bW IB;have qA:=bW hbq;have nAB:¬A=B:=hAB;have nBA:¬B=A:=Ne.symm hAB;clear IA IB hbq hzA Gt hAB k0 k1 k2 k3 k4 k5 k6 k7 k8;go_wp2_with fail;go_meet
   go_light;refine⟨A,B,rfl,rfl,by omega,by omega,?_,?_,?_,?_,?_⟩
   ·exact(((w3 YL.out).other nBA _).other nBA _).other nBA _
   ·exact w3 (((HIB.out.other nAB _).other nAB _).other nAB _)
   ·have:=HIT.out.later qA.out zt;exact aBn
   ·have:=HIS.out.later qA.out zs;exact aBn
   ·have:=HB1.out.trans (qA.out.mono bQ)
    (repeat' (first|with_reducible exact this|with_reducible refine Below.setCell ?_ ?_ _|(simp;omega)))
 case rest =>
  obtain⟨A,B,rfl,rfl,hA,hB,IA,IB,IT,IS,hb2⟩:=hcut;obtain⟨w2,hw2⟩:∃ x,x=wc:=⟨_,rfl⟩;subst hw2;have I2:=HI.out.later hb2 hlt;have zs:=IS.lt bQ;have zt:=IT.lt bQ;have zA:=IA.lt bQ;have zB:=IB.lt bQ;have hC2:=HC.out.later hb2;obtain⟨f0,f1,f2,f3,f4,f5⟩:=zM IT;obtain⟨a0,a1,a2⟩:=ZB IA;obtain⟨b0,b1,b2⟩:=ZB IB;simp only at f0 f1 f2 f3 f4 f5;have OM:iL (s.second ⟨c,d,sr,r,o,nn⟩):=HS.out.second hin;have WA:iL (s.regs d):=HS.out.1 d;have hbl:Below w.heap.size w w2:=hb2;have HB2:=bW hb2;have HI2:=bW I2;have HIS:=bW IS;have HIT:=bW IT;have YL:=bW IA;have HIB:=bW IB;have HC2:=bW hC2;have zb:b<w2.heap.size:=I2.lt bQ;have z2:w.heap.size≤w2.heap.size:=hb2.size;clear hb2 I2 IS IT IA IB hC2 hbl HI HC;have hR:=HR.out;unfold VS.asks at hR;simp only[Int.toNat_natCast]at hR;generalize hx:s.regs d=x at *;generalize hy:s.second ⟨c,d,sr,r,o,nn⟩=y at *;have HX:=bW hx;have HY:=bW hy;clear hx hy;by_cases h0:x.kind=0∨y.kind=0
  ·rw[dB h0]at hR;subst hR
   as_aux_lemma =>
    have hd:((x.kind==0)=true)∨((x.kind==0)=false∧(y.kind==0)=true):=by
     by_cases e:x.kind=0
     ·exact .inl (VF e)
     ·exact .inr ⟨sZ e,VF bQ⟩
    clear h0;rcases hd with t1|⟨t1,t2⟩
    all_goals
     go_wp2_with fail;refine aki ?_;intro w3 q0 q1 q2 HB3;go_wp2_with fail;go_ret
     exact⟨_,rfl,.inr (.inr ⟨show(8:Int)≠0 by decide,_,rfl,q0,q1⟩),HI2.out.later HB3.out zb,But.of (HB2.out.trans (HB3.out.mono z2))⟩
  rw[dw h0]at hR;by_cases h1:x.kind=1∧y.kind=1
  ·rw[dB h1]at hR
   as_aux_lemma =>
    have hxo:=WA.2;have hyo:=OM.2;obtain⟨xk,⟨xl,xh⟩⟩:=x;obtain⟨yk,⟨yl,yh⟩⟩:=y;obtain⟨e1,e2⟩:=h1;simp only at e1 e2 hxo hyo;subst e1;subst e2;simp only at a0 a1 a2 b0 b1 b2;refine aoS ?_;intro ol oh;obtain⟨o,rfl⟩:=Int.eq_ofNat_of_zero_le ol;refine aoT ?_;intro s1 s2 Hf Lh;have Ky:=bW hxo;have OO:=bW hyo;have HAS:Hid (P.asks c=true):=by show P.asks c=true;simp[P.asks];omega
    refine axf ?_;intro X hX Y hY;have hR2:YR.go X Y=R:=by rw[←hX,←hY];exact hR
    subst hR2;refine axg ?_;intro K hK;have hK0:K 0=((0,-1),k):=agL;have hK1:K 1=rU (iO S f) X (K 0).2:=agL;have hK2:K 2=rU (iO S f) Y (K 1).2:=agL;refine axh ?_;intro hKR hKE OQ Uj Yo HKR aoU HX2 HY2;clear hR h0 hX hY hK hK0 hK1 hK2 hKR hKE hxo hyo ol oh OM WA hca;go_wp2_with fail;go_loopw [58] (fun i wr=>∃ (j:Nat) (k':Wk),j≤2∧i=aU j∧(j=2→(K 1).1.1=0)∧(K j).1.1=0∧(K j).1.2=-1∧k'=(K j).2∧0≤k'.looks∧k'.looks≤4000∧(∀ e∈k'.ends,e.Ok)∧P.Img wr b 5 (Ew (.slice (some a) n cap) k')∧But b w2 wr) (fun i _=>2-(intOf i).toNat)
    case atStart=>exact⟨0,k,by omega,rfl,fun h=>by omega,by rw[OQ.out],by rw[OQ.out],by rw[OQ.out],hk0,hk1,Ho.out,HI2.out,But.refl _ _⟩
    case round =>
     obtain⟨j,k',hj,rfl,al9,hj0,hjp,hk',hk0',Iu,aau,hI',hB'⟩:=hrel;have asA:=bW al9;have TY:=bW hj0;have HJP:=bW hjp;have HKK:=bW hk';have G8:=bW aau;have HI':=bW hI';have HB':=bW hB';have nt:w.heap.size+1≠b:=bQ;have nA:A≠b:=fun e=>by omega
     have nB:B≠b:=fun e=>by omega
     have nS:w.heap.size≠b:=bQ;obtain⟨f0,f1,f2,f3,f4,f5⟩:=zM (hB'.img HIT.out bQ nt);have ia:=hB'.img YL.out bQ nA;have ib:=hB'.img HIB.out bQ nB;have is:=hB'.img HIS.out bQ nS;obtain⟨a0',a1',a2'⟩:=ZB ia;obtain⟨b0',b1',b2'⟩:=ZB ib;simp only at f0 f1 f2 f3 f4 f5 a0' a1' a2' b0' b1' b2';have HT1:=bW (hB'.img HIT.out bQ nt);have aui:=bW ia;have aj8:=bW is;have uS:=bW (HC2.out.but hB' hab);have zr:w2.heap.size≤wr.heap.size:=hB'.size;have zrt:w.heap.size+1<wr.heap.size:=bQ;have zrA:A<wr.heap.size:=bQ;have zrB:B<wr.heap.size:=bQ;have zrb:b<wr.heap.size:=bQ;have zrs:w.heap.size<wr.heap.size:=bQ;clear al9 hj0 hjp hk' aau hI' hB' ia ib is;by_cases hj2:j<2
     ·have hj3:(j:Int)<2:=bQ;have asC:j=0∨j=1:=bQ;rcases asC with rfl|rfl
      ·as_aux_lemma =>
        have i0:∀ w,(Instr.index 287 (.agg #[.bool false,.bool true]) (aU 0)).run Tryz.prog w=.ok (.bool false) w:=fun _=>by kernel_rfl
        go_upto_region 9 with fail;go_cut [12,13] (fun p q wx=>∃ m:Nat,wx=wr.drewN m∧p=aU c∧q=aU ((pc:Int)+1+(o:Int)))
        case first =>
         as_aux_lemma =>
          exact awI
        case rest =>
         obtain⟨md,hmd,rfl,rfl⟩:=hcut;obtain⟨w3,hw3⟩:∃ x,x=wc:=⟨_,rfl⟩;subst hw3;have hb3:Below wr.heap.size wr w3:=hmd▸Below.drewN' (Below.refl _ _) _;clear hmd;refine aAh ?_;intro Uc Uk EK Hq HI3 HB3 z3 f0 f1 f2 f3 f4 f5 a1' a2' b1' b2';have CN:=bW (fun w=>aCS (NU c) xl xh yl yh Ky.out.1 Ky.out.2.1 OO.out.1 OO.out.2.1 w);obtain⟨Nr,O5⟩:∃ Nr,eX (NU c) ⟨xl,xh⟩ ⟨yl,yh⟩=Nr:=⟨_,rfl⟩;rw[O5]at CN;have Rx:=bW O5;clear O5 hb3 HT1 aui aj8 uS HI' HB';obtain⟨⟨pl,ph⟩,⟨ql,qh⟩,ok⟩:=Nr;simp only at CN;refine apV ?_;intro y1 y2 y3 y4;go_wp2_with (go_at_call 150;with_reducible refine(aIk c HAS.out _).mono ?_;rintro e w' ⟨rfl,rfl⟩);refine aAx ?_;intro w4 hb4 EL NC HI4 HB4 z4 yY NV f0 f1 f2 f3 f4 f5 a0' a1' a2' y1 y2 y3 y4;clear hb4 b1' b2' CN EK Uk Uc Hq HI3 HB3;cases ok with
         |false =>
          as_aux_lemma =>
           have Yp:X=none:=by
            rw[←HX2.out];exact aoZ
           have hKn:K 1=((0,-1),k'):=by rw[Uj.out,Yp,HKK.out];rfl
           have Pg:=bW hKn;clear Yp hKn;go_wp2_with fail;go_roundw
           case rel =>
            go_light;refine⟨1,k',by omega,by go_num,fun h=>by omega,by rw[Pg.out],by rw[Pg.out],by rw[Pg.out],hk0',Iu,G8.out,?_,?_⟩
            ·exact(HI4.out.alloc _).alloc _
            ·exact(HB4.out.alloc _).alloc _
           case measure=>simp[intOf]
         |true =>
          go_upto_region 14 with fail;refine ao0 ?_;intro w5 hW hb5 p0 p1 q0 q1 yq;have yp:w4.heap.size<w5.heap.size:=bQ;clear hW;refine aAP ?_;intro Q5 KC EM yg Es Tc y1 y2 y3 y4;clear hb5 EL NC HI4 HB4 yY NV f0 f1 f2 f3 f4 f5 a0' a1' a2';go_cut [17] (fun p wx=>p=.pointer (some ⟨w5.heap.size,0,none⟩)∧P.Img wx w5.heap.size 81 (gQ fC s)∧Below w5.heap.size w5 wx)
          case first =>
           as_aux_lemma =>
            exact awE
          case rest =>
           obtain⟨rfl,IU,hb6⟩:=hcut;obtain⟨w6,hw6⟩:∃ x,x=wc:=⟨_,rfl⟩;subst hw6;have sJ:=bW IU;have Ba:=bW (KC.out.later hb6);have uD:=bW (EM.out.later hb6 y4);have BG:=bW (yg.out.trans (But.of hb6));obtain⟨f0,f1,f2,f3,f4,f5⟩:=zM (Es.out.later hb6 y1);obtain⟨a0',a1',a2'⟩:=ZB (Tc.out.later hb6 y2);simp only at f0 f1 f2 f3 f4 f5 a0' a1' a2';replace p0:=(hb6.cell (p:=⟨w4.heap.size,0,none⟩) yp).trans p0;replace p1:=(hb6.cell (p:=⟨w4.heap.size,1,none⟩) yp).trans p1;replace q0:=(hb6.cell (p:=⟨w4.heap.size+1,0,none⟩) yq).trans q0;replace q1:=(hb6.cell (p:=⟨w4.heap.size+1,1,none⟩) yq).trans q1;refine aAs ?_;intro zu nUb XW nU4 nU5 nU6 nU7 nU8 nU9 aek auo;have HAU:Hid (a.block≠w5.heap.size):=aBg;clear hb6 IU Q5 KC EM yg Es Tc;refine axv ?_;intro HXS;have Lu:=bW (show P.B.Ok ⟨pl,ph⟩∧P.B.Ok ⟨ql,qh⟩from by have:=amb (c:=NU c) Ky.out OO.out (by rw[Rx.out]);rw[Rx.out]at this;exact this);cases r with
           |false =>
            as_aux_lemma =>
             refine am6 ?_;intro d0 d1' d2 g0 g1' g2';go_upto_region 20 with fail;refine az1 ?_;intro w7 hW AU BU zL Lj qx Ld uG;clear hW AU BU d0 d1' d2 g0 g1' g2' Ba uD BG f0 f1 f2 f3 f4 f5 p0 p1 q0 q1 a0' a1' a2' sJ;generalize Eo:(s.narrowed ⟨c,d,sr,false,o,nn⟩ ⟨pl,ph⟩ ⟨ql,qh⟩)=ns at *;exact ar4
           |true =>
            by_cases hds:sr=d
            ·as_aux_lemma =>
              have aeu:=hds.symm;clear hds;subst aeu;refine aAr ?_;intro g0 g1' g2' v0 d0 v1 d1' v2 d2;go_upto_region 17 with fail;refine aAA ?_;intro wa JQ D8;replace f1:=D8.cell f1 bQ;replace f2:=D8.cell f2 bQ;replace f3:=D8.cell f3 bQ;replace p0:=D8.cell p0 bQ;replace p1:=D8.cell p1 bQ;replace q0:=D8.cell q0 bQ;replace q1:=D8.cell q1 bQ;replace a0':=D8.cell a0' bQ;replace a1':=D8.cell a1' bQ;replace a2':=D8.cell a2' bQ;clear d0;obtain⟨aM9,d0⟩:∃ v,wa.cell? ⟨w5.heap.size,d*3,none⟩=some v:=⟨_,JQ.cell (d*3) bQ⟩;replace g0:=JQ.free (d*3) bQ;clear d1';obtain⟨aNa,d1'⟩:∃ v,wa.cell? ⟨w5.heap.size,d*3+1,none⟩=some v:=⟨_,JQ.cell (d*3+1) bQ⟩;replace g1':=JQ.free (d*3+1) bQ;clear d2;obtain⟨aNb,d2⟩:∃ v,wa.cell? ⟨w5.heap.size,d*3+2,none⟩=some v:=⟨_,JQ.cell (d*3+2) bQ⟩;replace g2':=JQ.free (d*3+2) bQ;have aAD:=bW JQ;clear JQ;go_upto_region 19 with fail;refine aAC ?_;intro wb JR Ej;replace f1:=Ej.cell f1 bQ;replace f2:=Ej.cell f2 bQ;replace f3:=Ej.cell f3 bQ;replace p0:=Ej.cell p0 bQ;replace p1:=Ej.cell p1 bQ;replace q0:=Ej.cell q0 bQ;replace q1:=Ej.cell q1 bQ;replace a0':=Ej.cell a0' bQ;replace a1':=Ej.cell a1' bQ;replace a2':=Ej.cell a2' bQ;clear d0;obtain⟨aNc,d0⟩:∃ v,wb.cell? ⟨w5.heap.size,d*3,none⟩=some v:=⟨_,JR.cell (d*3) bQ⟩;replace g0:=JR.free (d*3) bQ;clear d1';obtain⟨aNd,d1'⟩:∃ v,wb.cell? ⟨w5.heap.size,d*3+1,none⟩=some v:=⟨_,JR.cell (d*3+1) bQ⟩
              replace g1':=JR.free (d*3+1) bQ;clear d2;obtain⟨aNe,d2⟩:∃ v,wb.cell? ⟨w5.heap.size,d*3+2,none⟩=some v:=⟨_,JR.cell (d*3+2) bQ⟩;replace g2':=JR.free (d*3+2) bQ;have az4:=bW JR;clear JR;go_upto_region 20 with fail;refine az9 ?_;intro w7 hW AU BU zL Lj qx Ld uG;clear hW AU BU d0 d1' d2 g0 g1' g2' Ba uD BG f0 f1 f2 f3 f4 f5 p0 p1 q0 q1 a0' a1' a2' sJ;generalize Eo:(s.narrowed ⟨c,d,d,true,o,nn⟩ ⟨pl,ph⟩ ⟨ql,qh⟩)=ns at *;exact ar4
            ·as_aux_lemma =>
              refine am6 ?_;intro d0 d1' d2 g0 g1' g2';have l1':=sJ.out.cell (sr*3+1) bQ;have l2:=sJ.out.cell (sr*3+2) bQ;have m1':=sJ.out.free (sr*3+1) bQ;have m2':=sJ.out.free (sr*3+2) bQ;have ds:=sZ (show(sr:Int)≠d by omega);refine ao2 ?_;intro m11 m12 m21 m22 n11 n12 n21 n22;go_upto_region 20 with fail;refine azZ ?_;intro w7 hW AU BU zL Lj qx Ld uG;clear hW AU BU d0 d1' d2 g0 g1' g2' Ba uD BG f0 f1 f2 f3 f4 f5 p0 p1 q0 q1 a0' a1' a2' sJ l1' l2 m1' m2';generalize Eo:(s.narrowed ⟨c,d,sr,true,o,nn⟩ ⟨pl,ph⟩ ⟨ql,qh⟩)=ns at *;exact ar4
      ·as_aux_lemma =>
        have i0:∀ w,(Instr.index 287 (.agg #[.bool false,.bool true]) (aU 1)).run Tryz.prog w=.ok (.bool true) w:=fun _=>by kernel_rfl
        go_upto_region 9 with fail;go_cut [12,13] (fun p q wx=>∃ m:Nat,wx=wr.drewN m∧p=aU c∧q=aU ((pc:Int)+1+(o:Int)))
        case first =>
         as_aux_lemma =>
          exact awI
        case rest =>
         obtain⟨md,hmd,rfl,rfl⟩:=hcut;obtain⟨w3,hw3⟩:∃ x,x=wc:=⟨_,rfl⟩;subst hw3;have hb3:Below wr.heap.size wr w3:=hmd▸Below.drewN' (Below.refl _ _) _;clear hmd;refine aAh ?_;intro Uc Uk EK Hq HI3 HB3 z3 f0 f1 f2 f3 f4 f5 a1' a2' b1' b2';have CN:=bW (fun w=>aCS (c) xl xh yl yh Ky.out.1 Ky.out.2.1 OO.out.1 OO.out.2.1 w);obtain⟨Nr,O5⟩:∃ Nr,eX (c) ⟨xl,xh⟩ ⟨yl,yh⟩=Nr:=⟨_,rfl⟩;rw[O5]at CN;have Rx:=bW O5;clear O5 hb3 HT1 aui aj8 uS HI' HB';obtain⟨⟨pl,ph⟩,⟨ql,qh⟩,ok⟩:=Nr;simp only at CN;refine apV ?_;intro y1 y2 y3 y4;go_wp2_with fail;refine aAx ?_;intro w4 hb4 EL NC HI4 HB4 z4 yY NV f0 f1 f2 f3 f4 f5 a0' a1' a2' y1 y2 y3 y4;clear hb4 b1' b2' CN EK Uk Uc Hq HI3 HB3;cases ok with
         |false =>
          as_aux_lemma =>
           have Yp:Y=none:=by
            rw[←HY2.out];exact aoZ
           have hKn:K 2=((0,-1),k'):=by rw[Yo.out,Yp,HKK.out];rfl
           have Pg:=bW hKn;clear Yp hKn;go_wp2_with fail;go_roundw
           case rel =>
            go_light;refine⟨2,k',by omega,by go_num,fun _=>TY.out,by rw[Pg.out],by rw[Pg.out],by rw[Pg.out],hk0',Iu,G8.out,?_,?_⟩
            ·exact(HI4.out.alloc _).alloc _
            ·exact(HB4.out.alloc _).alloc _
           case measure=>simp[intOf]
         |true =>
          go_upto_region 14 with fail;refine ao0 ?_;intro w5 hW hb5 p0 p1 q0 q1 yq;have yp:w4.heap.size<w5.heap.size:=bQ;clear hW;refine aAP ?_;intro Q5 KC EM yg Es Tc y1 y2 y3 y4;clear hb5 EL NC HI4 HB4 yY NV f0 f1 f2 f3 f4 f5 a0' a1' a2';go_cut [17] (fun p wx=>p=.pointer (some ⟨w5.heap.size,0,none⟩)∧P.Img wx w5.heap.size 81 (gQ fC s)∧Below w5.heap.size w5 wx)
          case first =>
           as_aux_lemma =>
            exact awE
          case rest =>
           obtain⟨rfl,IU,hb6⟩:=hcut;obtain⟨w6,hw6⟩:∃ x,x=wc:=⟨_,rfl⟩;subst hw6;have sJ:=bW IU;have Ba:=bW (KC.out.later hb6);have uD:=bW (EM.out.later hb6 y4);have BG:=bW (yg.out.trans (But.of hb6));obtain⟨f0,f1,f2,f3,f4,f5⟩:=zM (Es.out.later hb6 y1);obtain⟨a0',a1',a2'⟩:=ZB (Tc.out.later hb6 y2);simp only at f0 f1 f2 f3 f4 f5 a0' a1' a2';replace p0:=(hb6.cell (p:=⟨w4.heap.size,0,none⟩) yp).trans p0;replace p1:=(hb6.cell (p:=⟨w4.heap.size,1,none⟩) yp).trans p1;replace q0:=(hb6.cell (p:=⟨w4.heap.size+1,0,none⟩) yq).trans q0;replace q1:=(hb6.cell (p:=⟨w4.heap.size+1,1,none⟩) yq).trans q1;refine aAs ?_;intro zu nUb XW nU4 nU5 nU6 nU7 nU8 nU9 aek auo;have HAU:Hid (a.block≠w5.heap.size):=aBg;clear hb6 IU Q5 KC EM yg Es Tc;refine axC ?_;intro HXS;have Lu:=bW (show P.B.Ok ⟨pl,ph⟩∧P.B.Ok ⟨ql,qh⟩from by have:=amb (c:=c) Ky.out OO.out (by rw[Rx.out]);rw[Rx.out]at this;exact this);cases r with
           |false =>
            as_aux_lemma =>
             refine am6 ?_;intro d0 d1' d2 g0 g1' g2';go_upto_region 20 with fail;refine az1 ?_;intro w7 hW AU BU zL Lj qx Ld uG;clear hW AU BU d0 d1' d2 g0 g1' g2' Ba uD BG f0 f1 f2 f3 f4 f5 p0 p1 q0 q1 a0' a1' a2' sJ;generalize Eo:(s.narrowed ⟨c,d,sr,false,o,nn⟩ ⟨pl,ph⟩ ⟨ql,qh⟩)=ns at *;exact ar1
           |true =>
            by_cases hds:sr=d
            ·as_aux_lemma =>
              have aeu:=hds.symm;clear hds;subst aeu;refine aAr ?_;intro g0 g1' g2' v0 d0 v1 d1' v2 d2;go_upto_region 17 with fail;refine aAA ?_;intro wa JQ D8;replace f1:=D8.cell f1 bQ;replace f2:=D8.cell f2 bQ;replace f3:=D8.cell f3 bQ;replace p0:=D8.cell p0 bQ;replace p1:=D8.cell p1 bQ;replace q0:=D8.cell q0 bQ;replace q1:=D8.cell q1 bQ;replace a0':=D8.cell a0' bQ;replace a1':=D8.cell a1' bQ;replace a2':=D8.cell a2' bQ;clear d0;obtain⟨aM9,d0⟩:∃ v,wa.cell? ⟨w5.heap.size,d*3,none⟩=some v:=⟨_,JQ.cell (d*3) bQ⟩;replace g0:=JQ.free (d*3) bQ;clear d1';obtain⟨aNa,d1'⟩:∃ v,wa.cell? ⟨w5.heap.size,d*3+1,none⟩=some v:=⟨_,JQ.cell (d*3+1) bQ⟩;replace g1':=JQ.free (d*3+1) bQ;clear d2;obtain⟨aNb,d2⟩:∃ v,wa.cell? ⟨w5.heap.size,d*3+2,none⟩=some v:=⟨_,JQ.cell (d*3+2) bQ⟩;replace g2':=JQ.free (d*3+2) bQ;have aAD:=bW JQ;clear JQ;go_upto_region 19 with fail;refine aAC ?_;intro wb JR Ej;replace f1:=Ej.cell f1 bQ;replace f2:=Ej.cell f2 bQ;replace f3:=Ej.cell f3 bQ;replace p0:=Ej.cell p0 bQ;replace p1:=Ej.cell p1 bQ;replace q0:=Ej.cell q0 bQ;replace q1:=Ej.cell q1 bQ;replace a0':=Ej.cell a0' bQ;replace a1':=Ej.cell a1' bQ;replace a2':=Ej.cell a2' bQ;clear d0;obtain⟨aNc,d0⟩:∃ v,wb.cell? ⟨w5.heap.size,d*3,none⟩=some v:=⟨_,JR.cell (d*3) bQ⟩;replace g0:=JR.free (d*3) bQ;clear d1';obtain⟨aNd,d1'⟩:∃ v,wb.cell? ⟨w5.heap.size,d*3+1,none⟩=some v:=⟨_,JR.cell (d*3+1) bQ⟩
              replace g1':=JR.free (d*3+1) bQ;clear d2;obtain⟨aNe,d2⟩:∃ v,wb.cell? ⟨w5.heap.size,d*3+2,none⟩=some v:=⟨_,JR.cell (d*3+2) bQ⟩;replace g2':=JR.free (d*3+2) bQ;have az4:=bW JR;clear JR;go_upto_region 20 with fail;refine az9 ?_;intro w7 hW AU BU zL Lj qx Ld uG;clear hW AU BU d0 d1' d2 g0 g1' g2' Ba uD BG f0 f1 f2 f3 f4 f5 p0 p1 q0 q1 a0' a1' a2' sJ;generalize Eo:(s.narrowed ⟨c,d,d,true,o,nn⟩ ⟨pl,ph⟩ ⟨ql,qh⟩)=ns at *;exact ar1
            ·as_aux_lemma =>
              refine am6 ?_;intro d0 d1' d2 g0 g1' g2';have l1':=sJ.out.cell (sr*3+1) bQ;have l2:=sJ.out.cell (sr*3+2) bQ;have m1':=sJ.out.free (sr*3+1) bQ;have m2':=sJ.out.free (sr*3+2) bQ;have ds:=sZ (show(sr:Int)≠d by omega);refine ao2 ?_;intro m11 m12 m21 m22 n11 n12 n21 n22;go_upto_region 20 with fail;refine azZ ?_;intro w7 hW AU BU zL Lj qx Ld uG;clear hW AU BU d0 d1' d2 g0 g1' g2' Ba uD BG f0 f1 f2 f3 f4 f5 p0 p1 q0 q1 a0' a1' a2' sJ l1' l2 m1' m2';generalize Eo:(s.narrowed ⟨c,d,sr,true,o,nn⟩ ⟨pl,ph⟩ ⟨ql,qh⟩)=ns at *;exact ar1
     ·obtain rfl:j=2:=bQ;have hj3:¬(2:Int)<2:=bQ;have h21:(K 1).1.1=0:=asA.out rfl;have HE:Hid (J4 (iO S f) pc k (.go X Y)=((0,-1),k')):=by
       exact axD
      clear h21;go_wp2_with fail;go_ret
      rw[HE.out];exact⟨_,rfl,.inl ⟨rfl,rfl,rfl⟩,HI'.out,(But.of HB2.out).trans HB'.out⟩
  rw[dw h1]at hR;by_cases h2:r=true∨nn≠0∨(c≠15∧c≠16)
  ·rw[dB h2]at hR;subst hR
   as_aux_lemma =>
    have t0:=sZ (show x.kind≠0 by omega);have t1:=sZ (show y.kind≠0 by omega);have hd:((x.kind==1)=false)∨((x.kind==1)=true∧(y.kind==1)=false):=by
     by_cases e:x.kind=1
     ·exact .inr ⟨VF e,sZ bQ⟩
     ·exact .inl (sZ e)
    have he:r=true∨(r=false∧(nn !=0)=true)∨(r=false∧(nn !=0)=false∧(c !=15)=true∧(c !=16)=true):=by
     cases r with
     |true=>exact .inl rfl
     |false =>
      by_cases e:nn=0
      ·exact .inr (.inr ⟨rfl,aEk e,aan (by simp[e]at h2;omega),aan (by simp[e]at h2;omega)⟩)
      ·exact .inr (.inl ⟨rfl,aan e⟩)
    clear h0 h1 h2;rcases hd with t2|⟨t2,t3⟩
    all_goals rcases he with rfl|⟨rfl,t4⟩|⟨rfl,t4,t5,t6⟩
    all_goals
     go_wp2_with fail;refine aki ?_;intro w3 q0 q1 q2 HB3;go_wp2_with fail;go_ret
     exact⟨_,rfl,.inr (.inr ⟨show(1:Int)≠0 by decide,_,rfl,q0,q1⟩),HI2.out.later HB3.out zb,But.of (HB2.out.trans (HB3.out.mono z2))⟩
  ·rw[dw h2]at hR
   as_aux_lemma =>
    have hr:r=false:=by cases r<;>simp_all
    subst hr;have hn0:nn=0:=bQ;subst hn0;have hy1:y=Wh.num (eH 0):=HY.out.symm;subst hy1;have x1:x.kind≠1:=fun e=>h1 ⟨e,rfl⟩;have t0:=sZ (show x.kind≠0 by omega);have t1:=sZ x1;have hc2:c=15∨c=16:=bQ;refine aoS ?_;intro ol oh;obtain⟨o,rfl⟩:=Int.eq_ofNat_of_zero_le ol;refine aoT ?_;intro s1 s2 Hf Lh;clear h0 h1 h2 x1 ol oh;rcases hc2 with rfl|rfl
    ·refine axE ?_;intro HR2;clear hR
     as_aux_lemma =>
      replace b0:w2.cell? ⟨B,0,none⟩=some (aU 1):=b0;go_upto_region 27 with fail;go_cut [19,20] (fun p q wx=>p=.int .i64 ↑(pc+1)∧q=.int .i64 ↑(pc+1+o)∧∃ m:Nat,wx=w2.drewN m)
      case first =>
       as_aux_lemma =>
        exact awH
      case rest =>
       obtain⟨rfl,rfl,md,hmd⟩:=hcut;obtain⟨w3,hw3⟩:∃ x,x=wc:=⟨_,rfl⟩;subst hw3;have hb3:Below w2.heap.size w2 w3:=hmd▸Below.drewN' (Below.refl _ _) _;have HB3:=bW hb3;clear hmd;have Uc:=bW (HIS.out.later hb3 zs);have Hq:=bW (HC2.out.later hb3);have HI3:=bW (HI2.out.later hb3 zb);have IT3:=HIT.out.later hb3 zt;have IA3:=YL.out.later hb3 zA;obtain⟨f0,f1,f2,f3,f4,f5⟩:=zM IT3;obtain⟨a0,a1,a2⟩:=ZB IA3;simp only at f0 f1 f2 f3 f4 f5;have z3:w2.heap.size≤w3.heap.size:=hb3.size;refine apV ?_;intro y1 y2 y3 y4;have EK:=bW IT3;have Uk:=bW IA3;clear hb3 IT3 IA3 HIS HC2 HI2 HIT YL;go_upto_region 30 with fail;go_cut [21] (fun p wx=>p=.pointer (some ⟨w3.heap.size,0,none⟩)∧P.Img wx w3.heap.size 81 (gQ fC s)∧Below w3.heap.size w3 wx)
       case first =>
        as_aux_lemma =>
         exact awy
       case rest =>
        obtain⟨rfl,IU,hb4⟩:=hcut;obtain⟨w4,hw4⟩:∃ x,x=wc:=⟨_,rfl⟩;subst hw4;refine aAz ?_;intro yY NC HI4 f0 f1 f2 f3 f4 f5 a0 a1 a2 sJ zu z4 LD yt yb yA nUb XW;have HAU:Hid (a.block≠w3.heap.size):=aBh;clear hb4 IU Uc Uk EK Hq HI3 HB3 HB2;by_cases k5:x.kind=5
        ·have hR2:=HR2.out;rw[dB k5]at hR2;subst hR2;have t5:=VF k5;clear k5
         as_aux_lemma =>
          go_wp2_with fail;refine aAg ?_;intro CO CN q1;repeat (quiet_step (first|exact CO.out _ _ _|exact CN.out _ _ _))
          refine wpQuiet_nil ?_;intro wq hwq;have hbq:Below w4.heap.size w4 wq:=by
           exact Q8
          clear hwq q1;have IQ:=sJ.out.later hbq zu;have d0:=IQ.cell (d*3) bQ;have d1':=IQ.cell (d*3+1) bQ;have d2:=IQ.cell (d*3+2) bQ;refine agR ?_;intro g0 g1' g2' qN qA;have zqU:w3.heap.size<wq.heap.size:=IQ.lt bQ;clear IQ hbq CO CN;go_upto_region 33 with fail;refine az3 ?_;intro w5 hW IU5 B5 ac8 hC5 hI5 g1 KC EM ajJ zu5 y15;clear hW IU5 B5 hC5 hI5 d0 d1' d2 g0 g1' g2' f0 f1 f2 f3 f4 f5 a0 a1 a2 qN qA sJ HI4 NC LD;go_wp2_with (first|(with_reducible refine BJ iV 194 (.tmp 21) rfl w3.heap.size 0 iV (iK fC (s.gu d (.num (eH 0)))) _ (Img.iK ac8.out) Tryz.underlying194 rfl (VK _) ?_));refine aew ?_;refine(HIH.out (s.gu d (.num (eH 0))) (pc+1+o) k w5 (HS.out.gu _ (iL.num (Dt N8))) Lh.out bQ hk0 hk1 Ho.out KC.out EM.out).mono ?_;intro e w6 hp;obtain⟨v,rfl,hE,QB,JU⟩:=hp;by_cases he:(iO S f (s.gu d (.num (eH 0))) ((pc+1+o:Nat):Int) k).1.1=0
          ·obtain rfl:=hE.nil0 he;refine aBo ?_;intro CX g1' uD BG IU6 afZ Ba zu6 z6 y16 yb6;clear he hE QB JU IU6 g1 ac8 KC EM;go_wp2_with fail;refine atX ?_;intro CO;have q1:=cell_regrown g1';refine OD 6 dF dF ?_;repeat (quiet_step (exact CO.out _ _ _))
           refine wpQuiet_nil ?_;intro wz hwz;have hbz:Below w6.heap.size w6 wz:=by
            exact aus
           clear hwz q1;have IZ:=afZ.out.later hbz zu6;have d0:=IZ.cell (d*3) bQ;have d1':=IZ.cell (d*3+1) bQ;have d2:=IZ.cell (d*3+2) bQ;have g0:=IZ.free (d*3) bQ;have h1':=IZ.free (d*3+1) bQ;have h2':=IZ.free (d*3+2) bQ;have Ux:=bW IZ;have UN:=bW hbz;clear IZ hbz CO;go_upto_region 37 with fail;refine az5 ?_;intro w7 hW AU BU hC7;have Oo:P.Img w7 b 5 (Ew (.slice (some a) n cap) (iO S f (s.gu d (.num (eH 0))) ((pc+1+o:Nat):Int) k).2):=BU.img (uD.out.later UN.out yb6) bQ XW;have Ld:=bW AU;have zL:=bW hC7;have Lj:=bW Oo;have qx:=bW (aeS (((But.of ajJ.out).trans BG.out).trans (But.of UN.out)) BU bQ);clear hW AU BU hC7 Oo d0 d1' d2 g0 h1' h2' Ux UN afZ Ba g1';go_wp2_with (first|(with_reducible refine BJ iV 194 (.tmp 21) rfl w3.heap.size 0 iV (iK fC (s.gu d ⟨4,eH 0⟩)) _ (Img.iK Ld.out) Tryz.underlying194 rfl (VK _) ?_));refine aev ?_;have mQ:=bW (G7 HP.out f (s.gu d (.num (eH 0))) ((pc+1+o:Nat):Int) k (HS.out.gu _ (iL.num (Dt N8))) bQ adC NP);have HL2:=bW (TV f (s.gu d (.num (eH 0))) ((pc+1+o:Nat):Int) k hk1 CX.out);refine(HIH.out (s.gu d ⟨4,eH 0⟩) (pc+1) (iO S f (s.gu d (.num (eH 0))) ((pc+1+o:Nat):Int) k).2 w7 (HS.out.gu _ ⟨by simp,Dt N8⟩) Hf.out bQ (Int.le_trans hk0 mQ.out.looks) HL2.out (mQ.out.ok Ho.out) zL.out Lj.out).mono ?_;exact aEo
          ·exact aEp
        ·have hR2:=HR2.out;rw[dw k5]at hR2;subst hR2;have t5:=sZ k5;clear k5
         as_aux_lemma =>
          go_wp2_with (first|(with_reducible refine BJ iV 194 (.tmp 21) rfl w3.heap.size 0 iV (iK fC s) _ (Img.iK sJ.out) Tryz.underlying194 rfl (VK _) ?_));refine aev ?_;refine(HIH.out s (pc+1) k w4 HS.out Hf.out bQ hk0 hk1 Ho.out NC.out HI4.out).mono ?_;intro e w6 hp;obtain⟨v,rfl,hE,QB,JU⟩:=hp;have HE:=bW hE;have uD:=bW QB;have BG:=bW JU;clear hE QB JU;go_wp2_with fail;go_ret
          rw[agT (fun h0=>(G7 HP.out f s _ k HS.out bQ adI NP).place h0)];exact⟨_,rfl,HE.out,uD.out,(But.of LD.out).trans BG.out⟩
    ·refine axP ?_;intro HR2;clear hR
     as_aux_lemma =>
      replace b0:w2.cell? ⟨B,0,none⟩=some (aU 1):=b0;go_upto_region 27 with fail;go_cut [19,20] (fun p q wx=>p=.int .i64 ↑(pc+1)∧q=.int .i64 ↑(pc+1+o)∧∃ m:Nat,wx=w2.drewN m)
      case first =>
       as_aux_lemma =>
        exact awH
      case rest =>
       obtain⟨rfl,rfl,md,hmd⟩:=hcut;obtain⟨w3,hw3⟩:∃ x,x=wc:=⟨_,rfl⟩;subst hw3;have hb3:Below w2.heap.size w2 w3:=hmd▸Below.drewN' (Below.refl _ _) _;have HB3:=bW hb3;clear hmd;have Uc:=bW (HIS.out.later hb3 zs);have Hq:=bW (HC2.out.later hb3);have HI3:=bW (HI2.out.later hb3 zb);have IT3:=HIT.out.later hb3 zt;have IA3:=YL.out.later hb3 zA;obtain⟨f0,f1,f2,f3,f4,f5⟩:=zM IT3;obtain⟨a0,a1,a2⟩:=ZB IA3;simp only at f0 f1 f2 f3 f4 f5;have z3:w2.heap.size≤w3.heap.size:=hb3.size;refine apV ?_;intro y1 y2 y3 y4;have EK:=bW IT3;have Uk:=bW IA3;clear hb3 IT3 IA3 HIS HC2 HI2 HIT YL;go_upto_region 30 with fail;go_cut [21] (fun p wx=>p=.pointer (some ⟨w3.heap.size,0,none⟩)∧P.Img wx w3.heap.size 81 (gQ fC s)∧Below w3.heap.size w3 wx)
       case first =>
        as_aux_lemma =>
         exact awy
       case rest =>
        obtain⟨rfl,IU,hb4⟩:=hcut;obtain⟨w4,hw4⟩:∃ x,x=wc:=⟨_,rfl⟩;subst hw4;refine aAz ?_;intro yY NC HI4 f0 f1 f2 f3 f4 f5 a0 a1 a2 sJ zu z4 LD yt yb yA nUb XW;have HAU:Hid (a.block≠w3.heap.size):=aBh;clear hb4 IU Uc Uk EK Hq HI3 HB3 HB2;by_cases k5:x.kind=5
        ·have hR2:=HR2.out;rw[dB k5]at hR2;subst hR2;have t5:=VF k5;clear k5
         as_aux_lemma =>
          go_wp2_with fail;refine aAg ?_;intro CO CN q1;repeat (quiet_step (first|exact CO.out _ _ _|exact CN.out _ _ _))
          refine wpQuiet_nil ?_;intro wq hwq;have hbq:Below w4.heap.size w4 wq:=by
           exact Q8
          clear hwq q1;have IQ:=sJ.out.later hbq zu;have d0:=IQ.cell (d*3) bQ;have d1':=IQ.cell (d*3+1) bQ;have d2:=IQ.cell (d*3+2) bQ;refine agR ?_;intro g0 g1' g2' qN qA;have zqU:w3.heap.size<wq.heap.size:=IQ.lt bQ;clear IQ hbq CO CN;go_upto_region 33 with fail;refine az3 ?_;intro w5 hW IU5 B5 ac8 hC5 hI5 g1 KC EM ajJ zu5 y15;clear hW IU5 B5 hC5 hI5 d0 d1' d2 g0 g1' g2' f0 f1 f2 f3 f4 f5 a0 a1 a2 qN qA sJ HI4 NC LD;go_wp2_with (first|(with_reducible refine BJ iV 194 (.tmp 21) rfl w3.heap.size 0 iV (iK fC (s.gu d (.num (eH 0)))) _ (Img.iK ac8.out) Tryz.underlying194 rfl (VK _) ?_));refine aev ?_;refine(HIH.out (s.gu d (.num (eH 0))) (pc+1) k w5 (HS.out.gu _ (iL.num (Dt N8))) Hf.out bQ hk0 hk1 Ho.out KC.out EM.out).mono ?_;intro e w6 hp;obtain⟨v,rfl,hE,QB,JU⟩:=hp;by_cases he:(iO S f (s.gu d (.num (eH 0))) ((pc+1:Nat):Int) k).1.1=0
          ·obtain rfl:=hE.nil0 he;refine aBo ?_;intro CX g1' uD BG IU6 afZ Ba zu6 z6 y16 yb6;clear he hE QB JU IU6 g1 ac8 KC EM;go_wp2_with fail;refine atX ?_;intro CO;have q1:=cell_regrown g1';refine OD 6 dF dF ?_;repeat (quiet_step (exact CO.out _ _ _))
           refine wpQuiet_nil ?_;intro wz hwz;have hbz:Below w6.heap.size w6 wz:=by
            exact aus
           clear hwz q1;have IZ:=afZ.out.later hbz zu6;have d0:=IZ.cell (d*3) bQ;have d1':=IZ.cell (d*3+1) bQ;have d2:=IZ.cell (d*3+2) bQ;have g0:=IZ.free (d*3) bQ;have h1':=IZ.free (d*3+1) bQ;have h2':=IZ.free (d*3+2) bQ;have Ux:=bW IZ;have UN:=bW hbz;clear IZ hbz CO;go_upto_region 37 with fail;refine az5 ?_;intro w7 hW AU BU hC7;have Oo:P.Img w7 b 5 (Ew (.slice (some a) n cap) (iO S f (s.gu d (.num (eH 0))) ((pc+1:Nat):Int) k).2):=BU.img (uD.out.later UN.out yb6) bQ XW;have Ld:=bW AU;have zL:=bW hC7;have Lj:=bW Oo;have qx:=bW (aeS (((But.of ajJ.out).trans BG.out).trans (But.of UN.out)) BU bQ);clear hW AU BU hC7 Oo d0 d1' d2 g0 h1' h2' Ux UN afZ Ba g1';go_wp2_with (first|(with_reducible refine BJ iV 194 (.tmp 21) rfl w3.heap.size 0 iV (iK fC (s.gu d ⟨4,eH 0⟩)) _ (Img.iK Ld.out) Tryz.underlying194 rfl (VK _) ?_));refine aew ?_;have mQ:=bW (G7 HP.out f (s.gu d (.num (eH 0))) ((pc+1:Nat):Int) k (HS.out.gu _ (iL.num (Dt N8))) bQ adI NP);have HL2:=bW (TV f (s.gu d (.num (eH 0))) ((pc+1:Nat):Int) k hk1 CX.out);refine(HIH.out (s.gu d ⟨4,eH 0⟩) (pc+1+o) (iO S f (s.gu d (.num (eH 0))) ((pc+1:Nat):Int) k).2 w7 (HS.out.gu _ ⟨by simp,Dt N8⟩) Lh.out bQ (Int.le_trans hk0 mQ.out.looks) HL2.out (mQ.out.ok Ho.out) zL.out Lj.out).mono ?_;exact aEo
          ·exact aEp
        ·have hR2:=HR2.out;rw[dw k5]at hR2;subst hR2;have t5:=sZ k5;clear k5
         as_aux_lemma =>
          go_wp2_with (first|(with_reducible refine BJ iV 194 (.tmp 21) rfl w3.heap.size 0 iV (iK fC s) _ (Img.iK sJ.out) Tryz.underlying194 rfl (VK _) ?_));refine aew ?_;refine(HIH.out s (pc+1+o) k w4 HS.out Lh.out bQ hk0 hk1 Ho.out NC.out HI4.out).mono ?_;intro e w6 hp;obtain⟨v,rfl,hE,QB,JU⟩:=hp;have HE:=bW hE;have uD:=bW QB;have BG:=bW JU;clear hE QB JU;go_wp2_with fail;go_ret
          rw[agT (fun h0=>(G7 HP.out f s _ k HS.out bQ adC NP).place h0)];exact⟨_,rfl,HE.out,uD.out,(But.of LD.out).trans BG.out⟩
end Go.Proofs.YtglilddlhibogaaGreatDoor.W
