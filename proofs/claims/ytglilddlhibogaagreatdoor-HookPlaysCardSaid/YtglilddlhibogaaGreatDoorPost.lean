/- A part of the proof; each theorem states its conditions. -/
import Derived.Test.YtglilddlhibogaaGreatDoorZZ2
import Derived.Shelf.Strconv.Itoa0
import Derived.Test.YtglilddlhibogaaGreatDoorProg
set_option linter.unusedSimpArgs false
set_option linter.unusedVariables false
set_option maxRecDepth 100000
set_option maxHeartbeats 100000000
namespace Go.Proofs
open Go.Shelf
def Tryz.lays129_ren:Go.Shelf.Ren:=⟨fun|129=>202|n=>n,fun|53=>296|3=>3|4=>4|46=>197|5=>5|9=>9|n=>n,fun|n=>n⟩
theorem Tryz.lays129:Go.Proofs.Lays.n129 Tryz.prog Tryz.lays129_ren:={
 mixed:=dF
 f129:=Tryz.func202.trans (congrArg some dF)
 t3:=Tryz.underlying3
 a3:=Tryz.isAgg3
 z3:=Tryz.sizeOf3
 v3:=Tryz.zeroValue3
 t4:=Tryz.underlying4
 a4:=Tryz.isAgg4
 z4:=Tryz.sizeOf4
 v4:=Tryz.zeroValue4
 t5:=Tryz.underlying5
 a5:=Tryz.isAgg5
 z5:=Tryz.sizeOf5
 v5:=Tryz.zeroValue5
 t9:=Tryz.underlying9
 a9:=Tryz.isAgg9
 z9:=Tryz.sizeOf9
 v9:=Tryz.zeroValue9
 t46:=Tryz.underlying197
 a46:=Tryz.isAgg197
 z46:=Tryz.sizeOf197
 v46:=Tryz.zeroValue197
 t53:=Tryz.underlying296
 a53:=Tryz.isAgg296
 z53:=Tryz.sizeOf296
 v53:=Tryz.zeroValue296}
theorem Tryz.bits_Len64(x:Int)(w:World)(h0:0≤x)(h1:x≤18446744073709551615) :
  Calls Tryz.prog 202 #[.int .u64 x] w fun e w'=>e=.returned (aU (Lib.bitLen x.toNat))∧w'=w:=Any.bits_Len64 Tryz.lays129 x w h0 h1
end Go.Proofs
namespace Go.Proofs.YtglilddlhibogaaGreatDoor.P
def two(c:Int):Prop:=(1≤c∧c≤12)∨(15≤c∧c≤24)∨c=26
def bad(c d s:Int)(r:Bool)(o n:Int):Prop :=
  (¬(two c∨c=13∨c=25)∧d≠0)∨(¬(c=25∨two c∧r=true)∧s≠0)∨(¬two c∧r=true) ∨
  (¬(c=14∨(15≤c∧c≤24)∨c=25∨c=26)∧o≠0)∨(¬(two c∧r=false∨c=27)∧n≠0)∨(c=27∧(n<1∨3<n))
instance (c:Int):Decidable (two c):=by unfold two;exact inferInstance
instance (c d s:Int) (r:Bool) (o n:Int):Decidable (bad c d s r o n):=by unfold bad;exact inferInstance
def wrong(c d s:Int)(r:Bool)(o n:Int):Int :=
  if c<1∨28<c then 3 else if d<0∨10<d∨s<0∨10<s then 2 else if(c≤13∨c=25)∧d=10 then 6
  else if bad c d s r o n then 1 else 0
theorem adt{c d s:Int}{r:Bool}{o n:Int}(h:c<1∨28<c):wrong c d s r o n=3:=dB h
theorem ak3{c d s:Int}{r:Bool}{o n:Int}(h:¬(c<1∨28<c))(h2:d<0∨10<d∨s<0∨10<s):wrong c d s r o n=2:=(dw h).trans (dB h2)
theorem ak4{c d s:Int}{r:Bool}{o n:Int}(h:¬(c<1∨28<c))(h2:¬(d<0∨10<d∨s<0∨10<s))(h3:(c≤13∨c=25)∧d=10):wrong c d s r o n=6 :=
  (dw h).trans ((dw h2).trans (dB h3))
theorem ak5{c d s:Int}{r:Bool}{o n:Int}(h:¬(c<1∨28<c))(h2:¬(d<0∨10<d∨s<0∨10<s))(h3:¬((c≤13∨c=25)∧d=10))(h4:bad c d s r o n):wrong c d s r o n=1 :=
  (dw h).trans ((dw h2).trans ((dw h3).trans (dB h4)))
theorem ak6{c d s:Int}{r:Bool}{o n:Int}(h:¬(c<1∨28<c))(h2:¬(d<0∨10<d∨s<0∨10<s))(h3:¬((c≤13∨c=25)∧d=10))(h4:¬bad c d s r o n):wrong c d s r o n=0 :=
  (dw h).trans ((dw h2).trans ((dw h3).trans (dw h4)))
structure Step where
  code:Int
  dst:Int
  src:Int
  reg:Bool
  off:Int
  num:Int
def Step.wrong(s:Step):Int:=P.wrong s.code s.dst s.src s.reg s.off s.num
def Step.leads(s:Step):Prop:=s.code=14∨(15≤s.code∧s.code≤24)
instance (s:Step):Decidable s.leads:=by unfold Step.leads;exact inferInstance
def at_(S:Nat→Step)(n i:Nat):Int :=
  if(S i).wrong≠0 then(S i).wrong else if(S i).leads∧((S i).off<0∨(S i).off≥(n:Int)-1-i)then 10
  else if i+1=n∧(S i).code≠28 then 8 else 0
def from_(S:Nat→Step)(n:Nat):Nat→Nat→Int × Int
  |_,0=>(0,-1)
  |i,k+1=>if at_ S n i≠0 then(at_ S n i,(i:Int))else from_ S n (i+1) k
def check(S:Nat→Step)(n:Nat):Int × Int:=if n<1∨200<n then(4,-1)else from_ S n 0 n
theorem XJ{S:Nat→Step}{n i:Nat}(h:i<n)(ha:at_ S n i≠0):from_ S n i (n-i)=(at_ S n i,(i:Int)):=by
  obtain⟨k,hk⟩:∃ k,n-i=k+1:=⟨n-i-1,by omega⟩;rw[hk];exact dB ha
theorem azq{S:Nat→Step}{n i:Nat}(h:i<n)(ha:at_ S n i=0):from_ S n i (n-i)=from_ S n (i+1) (n-(i+1)):=by
  obtain⟨k,hk⟩:∃ k,n-i=k+1:=⟨n-i-1,by omega⟩;rw[hk,show n-(i+1)=k by omega];exact dw (by simp[ha])
theorem azs(S:Nat→Step)(n:Nat):from_ S n n (n-n)=(0,-1):=by rw[Nat.sub_self];rfl
end Go.Proofs.YtglilddlhibogaaGreatDoor.P
namespace Go.Proofs.YtglilddlhibogaaGreatDoor.W
open Go.RowKit Go.WideShapes Go.ChangeShapes
theorem aJ7{H:Type}{enc:TypeId × Value→H}{P:Program}{f:Func}{s:ChangeSpec}{apart fresh handsOn again:Bool}{w w':World}{args:Array Value}{v:Value}{ds gs:List (DataW H)}{old pa pv:List MemPlace}
  (hb:Below w.heap.size w w') (hW:DataW.Whole enc P f.params.toList s.vars apart w args.toList ds gs old) (hp:old=pa++pv)
  (hr:∀ (b:Nat) (sp:Nat→Bool) (hd:Bool),DataW.TrodAll enc P w' b sp hd f.resultTypes.toList (v.resultList f.resultTypes.size) (s.fn H (ds++gs)).results [])
  (ha:∀ sp:Nat→Bool,(∀ p∈old,sp p.block=true)→DataW.TrodAll enc P w' 0 sp true f.params.toList args.toList (s.fn H (ds++gs)).args pa)
  (hv:∀ sp:Nat→Bool,(∀ p∈old,sp p.block=true)→DataW.TrodVars enc P w' sp s.vars (s.fn H (ds++gs)).vars pv)
  (hok:∀ (j:Nat) (t:TypeId) (r:Value),f.resultTypes[j]?=some t→(v.resultList f.resultTypes.size)[j]?=some r→Value.okWide P w' .any 0 t r) :
  s.post enc P f apart fresh handsOn again w args v w':=by
 let sp:Nat→Bool:=fun b=>decide (b<w.heap.size)
 have lt:∀ p∈old,p.block<w.heap.size:=fun p h=>hW.lt p h;have osp:∀ p∈old,sp p.block=true:=fun p h=>decide_eq_true (lt p h);have kept:w.keptBut w' (·∈old):=hb.frame _;have all:=trodAll_append (ha (fun _=>true) (fun _ _=>rfl)) (hr 0 (fun _=>true) true);refine⟨ds,gs,old,[],pa,pv,hW,hr _ _ _,ha sp osp,hv sp osp,World.keptBut_mono (fun p h=>⟨h,Or.inr ?_⟩) kept,fun _=>?_⟩
 ·exact List.mem_append.1 (hp▸h)
 ·obtain⟨_,_,_,_,_,hz,hn⟩:=hW;refine⟨hok,_,_,[]++pa++pv,⟨[]++pa,pv,all,hv _ (fun _ _=>rfl),rfl,?_,?_⟩,?_⟩
  ·intro b off h;have ho:MemPlace.cell b off∈old:=by rw[hp];simpa using h
   rw[hb.frozen (lt _ ho)];exact hz b off ho
  ·intro h;have:=hn h;rw[hp]at this;simpa using this
  ·intro p h _;rw[hp];simpa using h
end Go.Proofs.YtglilddlhibogaaGreatDoor.W
