/- A part of the proof; each theorem states its conditions. -/
import Derived.Test.YtglilddlhibogaaGreatDoorTableEq
set_option linter.unusedSimpArgs false
set_option linter.unusedVariables false
set_option maxRecDepth 100000
set_option maxHeartbeats 100000000
namespace Go.Proofs.YtglilddlhibogaaGreatDoor.W
open Go.RowKit Go.Proofs.YtglilddlhibogaaGreatDoor.P
def aL7(b:Nat)(told:Nat→Int)(time num st pc:Int)(e:Ending)(w':World):JZ→Prop
 |.done M' n=>e=.returned (.tuple #[aU (pc+1),.bool true,aU 0])∧vW w' b told time n st M'
 |.err er=>(∃ nx:Int,e=.returned (.tuple #[aU nx,.bool false,aU er]))∧er≠0
 |.go M' nx=>e=.returned (.tuple #[aU nx,.bool false,aU 0])∧vW w' b told time num st M'
def avI(b:Nat)(told:Nat→Int)(time num st pc:Int)(R:JZ)(w:World)(e:Ending)(w':World):Prop:=aL7 b told time num st pc e w' R∧Below b w w'
theorem aDR{w:World}{b j:Nat}{c:Array Value}{t:TypeId}{v:Value}(hb:b=w.heap.size)(hj:c[j]?=some v):(w.alloc (.cells c t (0,0))).cell? ⟨b,j,none⟩=some v:=by
 subst hb;simp only[World.cell?,heap_alloc_new,Option.isSome_none,Bool.false_eq_true,if_false];simp[hj]
def aL8(w:World)(g:Nat)(y:Val):Prop:=w.cell? ⟨g,0,none⟩=some (.int .u8 (kl y.kind))∧w.cell? ⟨g,1,none⟩=some (aU y.n)∧w.cell? ⟨g,2,none⟩=some (aU y.cell)
theorem vW.drew{w:World}{b:Nat}{told:Nat→Int}{time num st:Int}{M:dM}(h:vW w b told time num st M):vW w.drew b told time num st M:=h.later ((Below.refl _ _).drew)
theorem vW.alloc{w:World}{b:Nat}{told:Nat→Int}{time num st:Int}{M:dM}(h:vW w b told time num st M)(o:Obj):vW (w.alloc o) b told time num st M:=h.later ((Below.refl _ _).alloc (Nat.le_refl _) _)
theorem aL9(M:dM)(told:Nat→Int)(time:Int)(d s:Nat)(r:Bool)(o nn:Int)(pc:Int):M.step told time ⟨25,d,s,r,o,nn⟩ pc =
  if(M.load told (M.regs s) o).2≠0 then .err (M.load told (M.regs s) o).2 else .go { M with regs:=upd M.regs d (M.load told (M.regs s) o).1} (pc+1):=by
 unfold dM.step;simp
theorem aMa(M:dM)(told:Nat→Int)(time:Int)(d s:Nat)(r:Bool)(o nn:Int)(pc:Int):M.step told time ⟨26,d,s,r,o,nn⟩ pc =
  if(M.store (M.regs d) o (M.second ⟨26,d,s,r,o,nn⟩)).2≠0 then .err (M.store (M.regs d) o (M.second ⟨26,d,s,r,o,nn⟩)).2 else .go (M.store (M.regs d) o (M.second ⟨26,d,s,r,o,nn⟩)).1 (pc+1):=by
 unfold dM.step;simp
theorem aMb(M:dM)(told:Nat→Int)(time:Int)(d s:Nat)(r:Bool)(o nn:Int)(pc:Int):M.step told time ⟨27,d,s,r,o,nn⟩ pc =
  if(M.call time nn).2≠0 then .err (M.call time nn).2 else .go (M.call time nn).1 (pc+1):=by
 unfold dM.step;simp
theorem aMc(M:dM)(told:Nat→Int)(time:Int)(d s:Nat)(r:Bool)(o nn:Int)(pc:Int):M.step told time ⟨13,d,s,r,o,nn⟩ pc =
  if(qM 13 (M.regs d) ⟨1,0,0⟩).2≠0 then .err (qM 13 (M.regs d) ⟨1,0,0⟩).2 else .go { M with regs:=upd M.regs d (qM 13 (M.regs d) ⟨1,0,0⟩).1} (pc+1):=by
 unfold dM.step;simp[Val.num]
theorem aMd(M:dM)(told:Nat→Int)(time:Int)(c:Int)(hc:c≤12)(d s:Nat)(r:Bool)(o nn:Int)(pc:Int):M.step told time ⟨c,d,s,r,o,nn⟩ pc =
  if(qM c (M.regs d) (M.second ⟨c,d,s,r,o,nn⟩)).2≠0 then .err (qM c (M.regs d) (M.second ⟨c,d,s,r,o,nn⟩)).2 else .go { M with regs:=upd M.regs d (qM c (M.regs d) (M.second ⟨c,d,s,r,o,nn⟩)).1} (pc+1):=by
 unfold dM.step;refine aud ?_;simp
theorem aMe(M:dM)(told:Nat→Int)(time:Int)(c:Int)(hc:15≤c∧c≤24)(d s:Nat)(r:Bool)(o nn:Int)(pc:Int):M.step told time ⟨c,d,s,r,o,nn⟩ pc =
  if(M.asks ⟨c,d,s,r,o,nn⟩).2≠0 then .err (M.asks ⟨c,d,s,r,o,nn⟩).2 else if(M.asks ⟨c,d,s,r,o,nn⟩).1 then .go M (pc+1+o)else .go M (pc+1):=by
 unfold dM.step;exact ap0
theorem aMf(M:dM)(told:Nat→Int)(time:Int)(d s:Nat)(r:Bool)(o nn:Int)(pc:Int):M.step told time ⟨14,d,s,r,o,nn⟩ pc=.go M (pc+1+o):=by
 unfold dM.step;simp
theorem aMg(M:dM)(told:Nat→Int)(time:Int)(d s:Nat)(r:Bool)(o nn:Int)(pc:Int):M.step told time ⟨28,d,s,r,o,nn⟩ pc =
  if(M.regs 0).kind=1 then .done M (M.regs 0).n else if(M.regs 0).kind=0 then .err 8 else .err 1:=by
 unfold dM.step;simp
theorem aFH(b:Nat)(told:Nat→Int)(time num st:Int)(M:dM)(w:World)(hM:vW w b told time num st M)(hO:Ak M)(hN:AX M)(ht:∀ r,In64 (told r))(um:In64 time)
  (c:Int) (d s:Nat) (r:Bool) (o nn:Int) (pc:Nat) (hp:pc<1000) (dN:d<11) (sN:s<11) (hc:1≤c∧c≤28) (ho:In64 o) (hnn:In64 nn) (hl:c=14∨(15≤c∧c≤24)→0≤o∧o<1000) (hbad:¬bad c d s r o nn) :
  Calls Tryz.prog 86 #[.pointer (some ⟨b,0,none⟩),.agg #[aU c,aU d,aU s,.bool r,aU o,aU nn],aU pc] w (avI b told time num st pc (M.step told time ⟨c,d,s,r,o,nn⟩ pc) w):=by
 refine fU ?_;intro HW0;have zb:=hM.ge;have HM:=bW hM;have HO:=bW hO;have HN:=bW hN;have HT:=bW ht;have HTM:=bW um;have D6:=bW ho;have HNN:=bW hnn;have HL:=bW hl;have HBAD:=bW hbad;have HP:=bW hp;clear hM hO hN ht um ho hnn hl hbad hp;have d1:(d:Int)<27:=bQ;have s1:(s:Int)<27:=bQ;obtain⟨R,hR⟩:∃ R,M.step told time ⟨c,d,s,r,o,nn⟩ pc=R:=⟨_,rfl⟩;rw[hR];have HR:=bW hR;clear hR;obtain⟨y,hy⟩:∃ y,y=M.second ⟨c,d,s,r,o,nn⟩:=⟨_,rfl⟩;have HY:=bW hy;clear hy;go_enter Tryz.func86,Tryz.ntmps86;go_upto_if 23 with fail
 go_cut [9] (fun p wx=>p=.pointer (some ⟨w.heap.size+1,0,none⟩)∧aL8 wx (w.heap.size+1) y∧(wx.cell? ⟨w.heap.size,0,none⟩=some (aU c)∧wx.cell? ⟨w.heap.size,1,none⟩=some (aU d)∧wx.cell? ⟨w.heap.size,2,none⟩=some (aU s)∧wx.cell? ⟨w.heap.size,3,none⟩=some (.bool r)∧wx.cell? ⟨w.heap.size,4,none⟩=some (aU o)∧wx.cell? ⟨w.heap.size,5,none⟩=some (aU nn))∧vW wx b told time num st M∧Below w.heap.size w wx∧w.heap.size+1<wx.heap.size)
 case first =>
  as_aux_lemma =>
   obtain⟨out,hI,hOw⟩:=HM.out;have x0:w.cell? ⟨b,s*3,none⟩=some (.int .u8 (kl (M.regs s).kind)):=(hI.cell (s*3) bQ).trans (congrArg some ((vX (r:=s) bQ (bQ:0<3) bQ).trans akt));have x1:w.cell? ⟨b,s*3+1,none⟩=some (aU (M.regs s).n):=(hI.cell (s*3+1) bQ).trans (congrArg some ((vX (r:=s) bQ (bQ:1<3) bQ).trans akt));have x2:w.cell? ⟨b,s*3+2,none⟩=some (aU (M.regs s).cell):=(hI.cell (s*3+2) bQ).trans (congrArg some ((vX (r:=s) bQ (bQ:2<3) bQ).trans akt));clear hI hOw;cases r
   ·obtain rfl:y=.num nn:=by rw[HY.out];unfold dM.second;simp
    go_wp2_with fail;go_meet
    go_light;refine⟨rfl,⟨?_,?_,?_⟩,⟨?_,?_,?_,?_,?_,?_⟩,?_,?_,?_⟩;all_goals first
     |with_reducible exact(HM.out.alloc _).alloc _
     |exact aDR dY rfl
     |(simp[go_sem,Val.num,kl];done)
     |exact gI
   ·obtain rfl:y=M.regs s:=by rw[HY.out];unfold dM.second;simp
    go_wp2_with fail;go_region;all_goals
     go_wp2_with fail;go_meet
     go_light;refine⟨rfl,⟨?_,?_,?_⟩,⟨?_,?_,?_,?_,?_,?_⟩,?_,?_,?_⟩
    all_goals first
     |with_reducible exact((HM.out.alloc _).alloc _).drew
     |exact aDR dY rfl
     |(simp[go_sem,Val.num,kl];done)
     |exact gI
 case rest =>
  obtain⟨rfl,hS,⟨f0,f1,f2,f3,f4,f5⟩,hM,hb,hz⟩:=hcut;obtain⟨wd,h⟩:∃ x,x=wc:=⟨_,rfl⟩;subst h;have YB:=hM.ge;obtain⟨y0,y1,y2⟩:=hS;obtain⟨out,hI,hOw⟩:=hM;have HI:=bW hI;have HOW:=bW hOw;have HWd:=bW hb;have z0:w.heap.size<wd.heap.size:=bQ;clear hI hOw hb HM;have x0:wd.cell? ⟨b,d*3,none⟩=some (.int .u8 (kl (M.regs d).kind)):=(HI.out.cell (d*3) bQ).trans (congrArg some ((vX (r:=d) bQ (bQ:0<3) bQ).trans (by rw[VO dN];rfl)));have x1:wd.cell? ⟨b,d*3+1,none⟩=some (aU (M.regs d).n):=(HI.out.cell (d*3+1) bQ).trans (congrArg some ((vX (r:=d) bQ (bQ:1<3) bQ).trans (by rw[VO dN];rfl)));have x2:wd.cell? ⟨b,d*3+2,none⟩=some (aU (M.regs d).cell):=(HI.out.cell (d*3+2) bQ).trans (congrArg some ((vX (r:=d) bQ (bQ:2<3) bQ).trans (by rw[VO dN];rfl)));have pc0:(pc:Int)+1≤1000:=by have:=HP.out;omega
  have hcl:c=28∨c=14∨(15≤c∧c≤24)∨c=25∨c=26∨c=27∨c≤13:=bQ;rcases hcl with rfl|rfl|hcc|rfl|rfl|rfl|hcc
  ·as_aux_lemma =>
   obtain rfl:d=0:=by
    have:=HBAD.out;unfold bad two at this;omega
   have hR:=HR.out;rw[aMg]at hR;have kk0:=acO (HO.out.1 0).1;have kk1:=aez (HO.out.1 0).1;have u0:wd.cell? ⟨b,0,none⟩=some (.int .u8 (kl (M.regs 0).kind)):=x0;have u1:wd.cell? ⟨b,1,none⟩=some (aU (M.regs 0).n):=x1;have n0:=HI.out.cell 89 bQ;have nf:=HI.out.free 89 bQ;clear x0 x1 x2 y0 y1 y2;by_cases e1:(M.regs 0).kind=1
   ·rw[dB e1]at hR;have HRR:=bW hR;clear hR;have t1:(kl (M.regs 0).kind==110)=true:=by rw[kk1,beq_iff_eq];exact e1
    have t0:(kl (M.regs 0).kind==0)=false:=by rw[kk0,beq_eq_false_iff_ne];omega
    clear kk0 kk1 e1;generalize kl (M.regs 0).kind=kk at *;go_wp2_with fail;go_region;all_goals go_wp2_with fail
    go_ret3
    rw[←HRR.out];refine⟨⟨rfl,out,?_,?_⟩,?_⟩
    ·exact HI.out.drew.aHI _
    ·exact ownsRow_setCell_below (World.ownsRow.drew HOW.out) dY _
    ·exact(((HWd.out.mono (Nat.le_of_lt zb)).drew).setCell (Nat.le_refl _) _)
   ·rw[dw e1]at hR;have t1:(kl (M.regs 0).kind==110)=false:=by rw[kk1,beq_eq_false_iff_ne];exact e1
    by_cases e0:(M.regs 0).kind=0
    ·rw[dB e0]at hR;have HRR:=bW hR;clear hR;have t0:(kl (M.regs 0).kind==0)=true:=by rw[kk0,beq_iff_eq];exact e0
     exact aDS
    ·rw[dw e0]at hR;have HRR:=bW hR;clear hR;have t0:(kl (M.regs 0).kind==0)=false:=by rw[kk0,beq_eq_false_iff_ne];exact e0
     exact aDS
  ·as_aux_lemma =>
   obtain⟨o1,o2⟩:=HL.out (.inl rfl);have hR:=HR.out;rw[aMf]at hR;have HRR:=bW hR;clear hR;go_wp2_with fail;go_region;all_goals go_wp2_with fail
   go_ret3
   rw[←HRR.out];exact⟨⟨rfl,out,HI.out.drew,World.ownsRow.drew HOW.out⟩,(HWd.out.mono (Nat.le_of_lt zb)).drew⟩
  ·as_aux_lemma =>
   obtain⟨o1,o2⟩:=HL.out (.inr hcc);have t28:(c==28)=false:=lW;have t14:(c==14)=false:=lW;have t15:15≤c:=hcc.1;have t24:c≤24:=hcc.2;have Zw:=acO (HO.out.1 d).1;have Zx:=aez (HO.out.1 d).1;have JM:oJ y:=HY.out▸HO.out.second _;have Gv:=acO JM.1;have H8:=aez JM.1;have hR:=HR.out;rw[aMe _ _ _ _ hcc]at hR;have hA:M.asks ⟨c,d,s,r,o,nn⟩=(if(M.regs d).kind=0∨y.kind=0 then(false,8)else if(M.regs d).kind=1∧y.kind=1 then(P.is c (M.regs d).n y.n,0)
     else if r=true∨nn≠0∨(c≠15∧c≠16)then(false,1)else(decide (c=16),0)):=by
    rw[HY.out];rfl
   by_cases a0:(M.regs d).kind=0
   ·rw[dB (.inl a0)]at hA;have u0:(kl (M.regs d).kind==0)=true:=by rw[Zw,beq_iff_eq];exact a0
    exact aAE
   by_cases b0:y.kind=0
   ·rw[dB (.inr b0)]at hA;have u0:(kl (M.regs d).kind==0)=false:=by rw[Zw,beq_eq_false_iff_ne];exact a0
    have v0:(kl y.kind==0)=true:=by rw[Gv,beq_iff_eq];exact b0
    exact aAE
   rw[dw bQ]at hA;have u0:(kl (M.regs d).kind==0)=false:=by rw[Zw,beq_eq_false_iff_ne];exact a0
   have v0:(kl y.kind==0)=false:=by rw[Gv,beq_eq_false_iff_ne];exact b0
   by_cases ab:(M.regs d).kind=1∧y.kind=1
   ·rw[dB ab]at hA;have u1:(kl (M.regs d).kind==110)=true:=by rw[Zx,beq_iff_eq];exact ab.1
    have v1:(kl y.kind==110)=true:=by rw[H8,beq_iff_eq];exact ab.2
    have cI:=fun w'=>aI8 c (M.regs d).n y.n w';generalize P.is c (M.regs d).n y.n=yes at *;have CI:=bW cI;clear cI;cases yes
    ·have hR2:.go M (pc+1)=R:=akj;exact aCR
    ·have hR2:.go M (pc+1+o)=R:=akj;exact aCR
   rw[dw ab]at hA;have uv:(kl (M.regs d).kind==110)=false∨((kl (M.regs d).kind==110)=true∧(kl y.kind==110)=false):=by
    rw[Zx,H8];by_cases a1:(M.regs d).kind=1
    ·right;simp[a1];exact fun h=>ab ⟨a1,h⟩
    ·left;rw[beq_eq_false_iff_ne];exact a1
   by_cases bd:r=true∨nn≠0∨(c≠15∧c≠16)
   ·rw[dB bd]at hA;have hR2:.err 1=R:=akj;have HRR:=bW hR2;clear hR2;have bd2:r=true∨(r=false∧(nn !=0)=true)∨(r=false∧(nn !=0)=false∧(c==15)=false∧(c !=15)=true∧(c==16)=false∧(c !=16)=true):=by
     cases r
     ·by_cases hn:nn=0
      ·have h5:c≠15∧c≠16:=by
        rcases bd with h|h|h
        ·cases h
        ·exact absurd hn h
        ·exact h
       right;right;simp[hn,h5]
      ·right;left;simp[hn]
     ·left;rfl
    clear Zw Zx Gv H8 hR hA JM;generalize kl (M.regs d).kind=ak at *;generalize kl y.kind=yk at *;clear bd ab;rcases bd2 with rfl|⟨rfl,q1⟩|⟨rfl,q1,q2,q3,q4,q5⟩<;>rcases uv with u1|⟨u1,v1⟩
    ·exact afV
    ·exact afV
    ·exact afV
    ·exact afV
    ·exact afV
    ·exact afV
   ·rw[dw bd]at hA;have bd2:r=false∧(nn !=0)=false∧((c=15∧decide (c=16)=false)∨(c=16∧decide (c=16)=true)):=by
     cases r
     ·by_cases hn:nn=0
      ·refine⟨rfl,by simp[hn],?_⟩;by_cases h5:c=15
       ·left;exact⟨h5,by simp[h5]⟩
       ·right;simp;omega
      ·exact absurd (.inr (.inl hn)) bd
     ·exact absurd (.inl rfl) bd
    obtain⟨rfl,q1,⟨q2,q3⟩|⟨q2,q3⟩⟩:=bd2
    ·rw[q3]at hA;subst q2;have hR2:.go M (pc+1)=R:=akj;exact aAt
    ·rw[q3]at hA;subst q2;have hR2:.go M (pc+1+o)=R:=akj;exact aAt
  ·as_aux_lemma =>
   have hR:=HR.out;rw[aL9]at hR;have xs0:wd.cell? ⟨b,s*3,none⟩=some (.int .u8 (kl (M.regs s).kind)):=(HI.out.cell (s*3) bQ).trans (congrArg some ((vX (r:=s) bQ (bQ:0<3) bQ).trans akt));have xs1:wd.cell? ⟨b,s*3+1,none⟩=some (aU (M.regs s).n):=(HI.out.cell (s*3+1) bQ).trans (congrArg some ((vX (r:=s) bQ (bQ:1<3) bQ).trans akt));have xs2:wd.cell? ⟨b,s*3+2,none⟩=some (aU (M.regs s).cell):=(HI.out.cell (s*3+2) bQ).trans (congrArg some ((vX (r:=s) bQ (bQ:2<3) bQ).trans akt));have hvS:=HO.out.1 s;have cW:=fun w'=>aCz (M.regs s) o (HO.out.1 s).1 (HN.out.1 s).1 D6.out w';obtain⟨⟨k,er⟩,hke⟩:∃ x,P.far (M.regs s) o=x:=⟨_,rfl⟩;rw[hke]at cW;have CQ:M.load told (M.regs s) o=(if er≠0 then(.none,er)else if(M.regs s).kind=2 then(.num (told k.toNat),0)else if(M.regs s).kind=4 then(.num (M.cells ((M.regs s).cell*4+k).toNat),0)
     else if(M.slots (k+16).toNat).kind=0 then(.none,8)else(M.slots (k+16).toNat,0)):=by unfold dM.load;rw[hke]
   by_cases he:er=0
   ·subst he;have h0:(P.far (M.regs s) o).2=0:=by rw[hke]
    obtain⟨k0,k1⟩:=arA h0;have hr:=arB h0 ⟨k0,k1⟩;rw[hke]at hr;generalize M.regs s=V at *;obtain⟨kind,n,cell⟩:=V;obtain⟨hk,hcl⟩:=hvS;simp only at hk hcl k0 k1 hr xs0 xs1 xs2 cW CQ;rw[dw dY]at CQ;have hk2:kind=2∨kind=3∨kind=4:=bQ;clear hk k0 k1 h0 hke;rcases hk2 with rfl|rfl|rfl
    ·
     simp only[low,high]at hr;obtain⟨q,rfl⟩:=Int.eq_ofNat_of_zero_le (show 0≤k by simp at hr;omega);have hq:q<8:=ZC;have q1:(q:Int)<8:=bQ;have hR2:JZ.go { M with regs:=upd M.regs d ⟨1,told q,0⟩} (pc+1)=R:=by rw[←hR,CQ];simp[Val.num]
     have HRR:=bW hR2;rw[show kl 2=116 from rfl]at xs0 cW;have CW:=bW cW;clear hR hR2 CQ cW hr hcl;go_wp2_with (go_at_call 58;refine(mg _ _).mono ?_;rintro e w' ⟨rfl,rfl⟩;rw[jX]);go_region;all_goals go_wp2_with (go_at_call 58;refine(mg _ _).mono ?_;rintro e w' ⟨rfl,rfl⟩;rw[jX])
     go_region;all_goals go_wp2_with (go_at_call 58;refine(mg _ _).mono ?_;rintro e w' ⟨rfl,rfl⟩;rw[jX])
     refine ac4 ?_;intro w2 hb2 hB2;have p0:w2.cell? ⟨wd.heap.size,0,none⟩=some (.int .u8 116):=(hb2.cell (p:=⟨wd.heap.size,0,none⟩) dY).trans oZ;refine adb ?_;intro p2 z2 Q7 z3 z4 HI2 HB2 Tv;refine am5 ?_;intro f3' y0' y1' y2' v0 v1 v2 fv0 fv1 fv2;clear hB2 hb2;have g1:w2.cell? ⟨b,81+q,none⟩=some (aU (told q)):=(HI2.out.cell _ bQ).trans (congrArg some (aHF hq rfl));clear x0 x1 x2 xs0 xs1 xs2 y0 y1 y2 f3;go_wp2_with fail;go_ret3
     rw[←HRR.out];exact⟨⟨rfl,vW.but (M:=M) Tv.out apO (by first|exact(HI2.out.Dp dN ⟨1,told q,0⟩ rfl rfl rfl).alloc _|exact(HI2.out.Dp dN ⟨1,told q,0⟩ rfl rfl rfl).drew|exact((HI2.out.Dp dN ⟨1,told q,0⟩ rfl rfl rfl).alloc _).drew|exact(HI2.out.alloc _).Dp dN ⟨1,told q,0⟩ rfl rfl rfl) rfl⟩,aeR⟩
    ·
     simp only[low,high]at hr;obtain⟨q,hq⟩:=Int.eq_ofNat_of_zero_le (show 0≤k+27 by simp at hr;omega);obtain rfl:k=(q:Int)-27:=bQ;have hq2:11≤q∧q<27:=ZC;have q1:(q:Int)<27:=bQ;have q2:(11:Int)≤q:=bQ;have e27:(27:Int)+((q:Int)-27)=q:=bQ;obtain⟨SV,hSV⟩:∃ x,M.slots (q-11)=x:=⟨_,rfl⟩;rw[dw dS,dw dS,show((q:Int)-27+16).toNat=q-11 by omega,hSV]at CQ;have hat:M.at_ q=SV:=by unfold dM.at_;rw[dw bQ,hSV]
     have hSO:oJ SV:=hSV▸HO.out.2 _;have kz:=acO hSO.1;rw[show kl 3=102 from rfl]at xs0 cW;have CW:=bW cW;have HSV:=bW hSV;have HAT:=bW hat;clear cW hr hcl hSV hat;by_cases hz0:SV.kind=0
     ·rw[dB hz0]at CQ;have hR2:JZ.err 8=R:=by rw[←hR,CQ];rfl
      have HRR:=bW hR2;have t0:(kl SV.kind==0)=true:=by rw[kz,beq_iff_eq];exact hz0
      clear hR hR2 CQ kz hz0;go_wp2_with (go_at_call 58;refine(mg _ _).mono ?_;rintro e w' ⟨rfl,rfl⟩;rw[jX]);go_region;all_goals go_wp2_with (go_at_call 58;refine(mg _ _).mono ?_;rintro e w' ⟨rfl,rfl⟩;rw[jX])
      go_region;all_goals go_wp2_with (go_at_call 58;refine(mg _ _).mono ?_;rintro e w' ⟨rfl,rfl⟩;rw[jX])
      refine apW ?_;intro w2 hb2 hB2 p0;refine adb ?_;intro p2 z2 Q7 z3 z4 HI2 HB2 Tv;refine am5 ?_;intro f3' y0' y1' y2' v0 v1 v2 fv0 fv1 fv2;clear hB2 hb2;refine az7 ?_;intro g0 g1 g2;generalize kl SV.kind=sk at *;clear x0 x1 x2 xs0 xs1 xs2 y0 y1 y2 f3;go_wp2_with fail;go_ret3
      rw[←HRR.out];exact⟨⟨⟨_,rfl⟩,by decide⟩,aeR⟩
     ·rw[dw hz0]at CQ;have hR2:JZ.go { M with regs:=upd M.regs d SV} (pc+1)=R:=by rw[←hR,CQ];simp
      have HRR:=bW hR2;have t0:(kl SV.kind==0)=false:=by rw[kz,beq_eq_false_iff_ne];exact hz0
      clear hR hR2 CQ kz hz0;go_wp2_with (go_at_call 58;refine(mg _ _).mono ?_;rintro e w' ⟨rfl,rfl⟩;rw[jX]);go_region;all_goals go_wp2_with (go_at_call 58;refine(mg _ _).mono ?_;rintro e w' ⟨rfl,rfl⟩;rw[jX])
      go_region;all_goals go_wp2_with (go_at_call 58;refine(mg _ _).mono ?_;rintro e w' ⟨rfl,rfl⟩;rw[jX])
      refine apW ?_;intro w2 hb2 hB2 p0;refine adb ?_;intro p2 z2 Q7 z3 z4 HI2 HB2 Tv;refine am5 ?_;intro f3' y0' y1' y2' v0 v1 v2 fv0 fv1 fv2;clear hB2 hb2;refine az7 ?_;intro g0 g1 g2;clear x0 x1 x2 xs0 xs1 xs2 y0 y1 y2 f3;go_wp2_with fail;go_ret3
      rw[←HRR.out];exact⟨⟨rfl,vW.but (M:=M) Tv.out apO (by first|exact(HI2.out.Dp dN SV rfl rfl rfl).alloc _|exact(HI2.out.Dp dN SV rfl rfl rfl).drew|exact((HI2.out.Dp dN SV rfl rfl rfl).alloc _).drew|exact(HI2.out.alloc _).Dp dN SV rfl rfl rfl) rfl⟩,aeR⟩
    ·
     have hcc:=hcl rfl;obtain⟨cell,rfl⟩:=Int.eq_ofNat_of_zero_le hcc.1;simp only[low,high]at hr;obtain⟨q,rfl⟩:=Int.eq_ofNat_of_zero_le (show 0≤k by simp at hr;omega);have hq:q<4:=ZC;have hc4:cell<4:=bQ;have q1:(q:Int)<4:=bQ;have q8:(cell:Int)<4:=bQ;have hR2:JZ.go { M with regs:=upd M.regs d ⟨1,M.cells (cell*4+q),0⟩} (pc+1)=R:=by
      rw[←hR,CQ];simp[Val.num];rw[show((cell:Int)*4+(q:Int)).toNat=cell*4+q by omega]
     have HRR:=bW hR2;rw[show kl 4=99 from rfl]at xs0 cW;have CW:=bW cW;clear hR hR2 CQ cW hr hcl hcc;go_wp2_with (go_at_call 58;refine(mg _ _).mono ?_;rintro e w' ⟨rfl,rfl⟩;rw[jX]);go_region;all_goals go_wp2_with (go_at_call 58;refine(mg _ _).mono ?_;rintro e w' ⟨rfl,rfl⟩;rw[jX])
     go_region;all_goals go_wp2_with (go_at_call 58;refine(mg _ _).mono ?_;rintro e w' ⟨rfl,rfl⟩;rw[jX])
     refine ac4 ?_;intro w2 hb2 hB2;have p0:w2.cell? ⟨wd.heap.size,0,none⟩=some (.int .u8 99):=(hb2.cell (p:=⟨wd.heap.size,0,none⟩) dY).trans oZ;refine adb ?_;intro p2 z2 Q7 z3 z4 HI2 HB2 Tv;refine am5 ?_;intro f3' y0' y1' y2' v0 v1 v2 fv0 fv1 fv2;clear hB2 hb2;have g1:w2.cell? ⟨b,90+cell*4+q,none⟩=some (aU (M.cells (cell*4+q))):=(HI2.out.cell _ bQ).trans (congrArg some (ay4 (bQ:cell*4+q<16) bQ));clear x0 x1 x2 xs0 xs1 xs2 y0 y1 y2 f3;go_wp2_with fail;go_region;all_goals
      go_wp2_with fail;go_ret3
      rw[←HRR.out];exact⟨⟨rfl,vW.but (M:=M) Tv.out apO (by first|exact(HI2.out.Dp dN ⟨1,M.cells (cell*4+q),0⟩ rfl rfl rfl).alloc _|exact(HI2.out.Dp dN ⟨1,M.cells (cell*4+q),0⟩ rfl rfl rfl).drew|exact((HI2.out.Dp dN ⟨1,M.cells (cell*4+q),0⟩ rfl rfl rfl).alloc _).drew|exact(HI2.out.alloc _).Dp dN ⟨1,M.cells (cell*4+q),0⟩ rfl rfl rfl) rfl⟩,aeR⟩
   ·have hR2:JZ.err er=R:=by rw[←hR,CQ,dB he];simp[he]
    have HRR:=bW hR2;have CW:=bW cW;have HE:=bW he;refine al3 ?_;intro t0 t1;generalize kl (M.regs s).kind=kk at *;generalize (M.regs s).cell=cell at *;clear hR hR2 CQ cW he hke hvS;go_wp2_with (go_at_call 58;refine(mg _ _).mono ?_;rintro e w' ⟨rfl,rfl⟩;rw[jX]);go_region;all_goals go_wp2_with (go_at_call 58;refine(mg _ _).mono ?_;rintro e w' ⟨rfl,rfl⟩;rw[jX])
    go_region;all_goals go_wp2_with (go_at_call 58;refine(mg _ _).mono ?_;rintro e w' ⟨rfl,rfl⟩;rw[jX])
    refine ac4 ?_;intro w2 hb2 hB2;have p0:w2.cell? ⟨wd.heap.size,0,none⟩=some (.int .u8 kk):=(hb2.cell (p:=⟨wd.heap.size,0,none⟩) dY).trans oZ;refine adb ?_;intro p2 z2 Q7 z3 z4 HI2 HB2 Tv;refine am5 ?_;intro f3' y0' y1' y2' v0 v1 v2 fv0 fv1 fv2;clear hB2 hb2;exact aDT
  ·as_aux_lemma =>
   have hR:=HR.out;rw[aMa,←HY.out]at hR;have JM:oJ y:=HY.out▸HO.out.second _;have Gv:=acO JM.1;have H8:=aez JM.1;have hvS:=HO.out.1 d;have cW:=fun w'=>aCz (M.regs d) o (HO.out.1 d).1 (HN.out.1 d).1 D6.out w';obtain⟨⟨k,er⟩,hke⟩:∃ x,P.far (M.regs d) o=x:=⟨_,rfl⟩;rw[hke]at cW;have EZ:M.store (M.regs d) o y=(if er≠0 then(M,er)else if(M.regs d).kind=2 then(M,6)else if y.kind=0 then(M,8)else if(M.regs d).kind=3 then({ M with slots:=upd M.slots (k+16).toNat y},0)
     else if y.kind≠1 then(M,1)else({ M with cells:=upd M.cells ((M.regs d).cell*4+k).toNat y.n},0)):=by unfold dM.store;rw[hke]
   by_cases he:er=0
   ·subst he;have h0:(P.far (M.regs d) o).2=0:=by rw[hke]
    obtain⟨k0,k1⟩:=arA h0;have hr:=arB h0 ⟨k0,k1⟩;rw[hke]at hr;generalize M.regs d=V at *;obtain⟨kind,n,cell⟩:=V;obtain⟨hk,hcl⟩:=hvS;simp only at hk hcl k0 k1 hr x0 x1 x2 cW EZ;rw[dw dY]at EZ;have hk2:kind=2∨kind=3∨kind=4:=bQ;clear hk k0 k1 h0 hke;rcases hk2 with rfl|rfl|rfl
    ·
     rw[dB rfl]at EZ;have hR2:JZ.err 6=R:=aqu;have HRR:=bW hR2;rw[show kl 2=116 from rfl]at x0 cW;have CW:=bW cW;clear hR hR2 EZ cW hr hcl Gv H8 JM;go_wp2_with (go_at_call 58;refine(mg _ _).mono ?_;rintro e w' ⟨rfl,rfl⟩;rw[jX]);go_region;all_goals go_wp2_with (go_at_call 58;refine(mg _ _).mono ?_;rintro e w' ⟨rfl,rfl⟩;rw[jX])
     refine ac4 ?_;intro w2 hb2 hB2;have p0:w2.cell? ⟨wd.heap.size,0,none⟩=some (.int .u8 116):=(hb2.cell (p:=⟨wd.heap.size,0,none⟩) dY).trans oZ;exact avJ
    ·
     simp only[low,high]at hr;obtain⟨q,hq⟩:=Int.eq_ofNat_of_zero_le (show 0≤k+27 by simp at hr;omega);obtain rfl:k=(q:Int)-27:=bQ;have hq2:11≤q∧q<27:=ZC;have q1:(q:Int)<27:=bQ;have q2:(11:Int)≤q:=bQ;have e27:(27:Int)+((q:Int)-27)=q:=bQ;rw[dw dS]at EZ;rw[show kl 3=102 from rfl]at x0 cW;have CW:=bW cW;clear cW hr hcl;by_cases hy0:y.kind=0
     ·rw[dB hy0]at EZ;have hR2:JZ.err 8=R:=aqu;have HRR:=bW hR2;have t0:(kl y.kind==0)=true:=by rw[Gv,beq_iff_eq];exact hy0
      clear hR hR2 EZ Gv H8 JM hy0;go_wp2_with (go_at_call 58;refine(mg _ _).mono ?_;rintro e w' ⟨rfl,rfl⟩;rw[jX]);go_region;all_goals go_wp2_with (go_at_call 58;refine(mg _ _).mono ?_;rintro e w' ⟨rfl,rfl⟩;rw[jX])
      refine apW ?_;intro w2 hb2 hB2 p0;exact avJ
     ·rw[dw hy0,dB rfl,show((q:Int)-27+16).toNat=q-11 by omega]at EZ;have hR2:JZ.go { M with slots:=upd M.slots (q-11) y} (pc+1)=R:=by rw[←hR,EZ];simp
      have HRR:=bW hR2;have t0:(kl y.kind==0)=false:=by rw[Gv,beq_eq_false_iff_ne];exact hy0
      clear hR hR2 EZ Gv H8 JM hy0;go_wp2_with (go_at_call 58;refine(mg _ _).mono ?_;rintro e w' ⟨rfl,rfl⟩;rw[jX]);go_region;all_goals go_wp2_with (go_at_call 58;refine(mg _ _).mono ?_;rintro e w' ⟨rfl,rfl⟩;rw[jX])
      refine apW ?_;intro w2 hb2 hB2 p0;refine adb ?_;intro p2 z2 Q7 z3 z4 HI2 HB2 Tv;refine am3 ?_;intro f3' y0' y1' y2';clear hB2 hb2;have g0:=HI2.out.cell (q*3) bQ;have g1:=HI2.out.cell (q*3+1) bQ;have g2:=HI2.out.cell (q*3+2) bQ;have fg0:=HI2.out.free (q*3) bQ;have fg1:=HI2.out.free (q*3+1) bQ;have fg2:=HI2.out.free (q*3+2) bQ;have HI9:=bW (HI2.out.aHG (r:=q-11) (i0:=q*3) (i1:=q*3+1) (i2:=q*3+2) bQ y bQ bQ bQ);exact aDU
    ·
     have hcc:=hcl rfl;obtain⟨cell,rfl⟩:=Int.eq_ofNat_of_zero_le hcc.1;simp only[low,high]at hr;obtain⟨q,rfl⟩:=Int.eq_ofNat_of_zero_le (show 0≤k by simp at hr;omega);have hq:q<4:=ZC;have hc4:cell<4:=bQ;have q1:(q:Int)<4:=bQ;have q8:(cell:Int)<4:=bQ;rw[dw dS]at EZ;rw[show kl 4=99 from rfl]at x0 cW;have CW:=bW cW;clear cW hr hcl hcc;by_cases hy0:y.kind=0
     ·rw[dB hy0]at EZ;have hR2:JZ.err 8=R:=aqu;have HRR:=bW hR2;have t0:(kl y.kind==0)=true:=by rw[Gv,beq_iff_eq];exact hy0
      clear hR hR2 EZ Gv H8 JM hy0;exact aDV
     ·rw[dw hy0,dw dS]at EZ;have t0:(kl y.kind==0)=false:=by rw[Gv,beq_eq_false_iff_ne];exact hy0
      by_cases hy1:y.kind=1
      ·rw[dw (by simp[hy1]),show((cell:Int)*4+(q:Int)).toNat=cell*4+q by omega]at EZ;have hR2:JZ.go { M with cells:=upd M.cells (cell*4+q) y.n} (pc+1)=R:=by rw[←hR,EZ];simp
       have HRR:=bW hR2;have t1:(kl y.kind==110)=true:=by rw[H8,beq_iff_eq];exact hy1
       have t2:(kl y.kind !=110)=false:=by rw[bne_eq_false_iff_eq];exact beq_iff_eq.1 t1
       clear hR hR2 EZ Gv H8 JM hy0 hy1;go_wp2_with (go_at_call 58;refine(mg _ _).mono ?_;rintro e w' ⟨rfl,rfl⟩;rw[jX]);go_region;all_goals go_wp2_with (go_at_call 58;refine(mg _ _).mono ?_;rintro e w' ⟨rfl,rfl⟩;rw[jX])
       refine ac4 ?_;intro w2 hb2 hB2;have p0:w2.cell? ⟨wd.heap.size,0,none⟩=some (.int .u8 99):=(hb2.cell (p:=⟨wd.heap.size,0,none⟩) dY).trans oZ;refine adb ?_;intro p2 z2 Q7 z3 z4 HI2 HB2 Tv;refine am3 ?_;intro f3' y0' y1' y2';clear hB2 hb2;have g0:=HI2.out.cell (90+cell*4+q) bQ;have fg0:=HI2.out.free (90+cell*4+q) bQ;have hI9:=HI2.out.aHJ (r:=cell*4+q) bQ y.n;rw[←Nat.add_assoc]at hI9;have HI9:=bW hI9;clear hI9;exact aDU
      ·rw[dB hy1]at EZ;have hR2:JZ.err 1=R:=aqu;have HRR:=bW hR2;have t1:(kl y.kind==110)=false:=by rw[H8,beq_eq_false_iff_ne];exact hy1
       have t2:(kl y.kind !=110)=true:=by rw[bne_iff_ne];exact beq_eq_false_iff_ne.1 t1
       clear hR hR2 EZ Gv H8 JM hy0 hy1;exact aDV
   ·have hR2:JZ.err er=R:=by rw[←hR,EZ,dB he];simp[he]
    have HRR:=bW hR2;have CW:=bW cW;have HE:=bW he;refine al3 ?_;intro t0 t1;generalize kl (M.regs d).kind=kk at *;generalize (M.regs d).cell=cell at *;clear hR hR2 EZ cW he hke hvS Gv H8 JM;go_wp2_with (go_at_call 58;refine(mg _ _).mono ?_;rintro e w' ⟨rfl,rfl⟩;rw[jX]);go_region;all_goals go_wp2_with (go_at_call 58;refine(mg _ _).mono ?_;rintro e w' ⟨rfl,rfl⟩;rw[jX])
    refine ac4 ?_;intro w2 hb2 hB2;have p0:w2.cell? ⟨wd.heap.size,0,none⟩=some (.int .u8 kk):=(hb2.cell (p:=⟨wd.heap.size,0,none⟩) dY).trans oZ;refine adb ?_;intro p2 z2 Q7 z3 z4 HI2 HB2 Tv;refine am3 ?_;intro f3' y0' y1' y2';clear hB2 hb2;clear x0 x1 x2 y0 y1 y2 f3;exact aDT
  ·as_aux_lemma =>
   have hnn:nn=1∨nn=2∨nn=3:=by
    have:=HBAD.out;unfold bad at this;omega
   have hR:=HR.out;rw[aMb]at hR;have HRR:=bW hR;have aMh:=bW hnn;clear hR hnn;go_wp2_with (go_at_call 58;refine(mg _ _).mono ?_;rintro e w' ⟨rfl,rfl⟩;rw[jX]);go_region;all_goals go_wp2_with (go_at_call 58;refine(mg _ _).mono ?_;rintro e w' ⟨rfl,rfl⟩;rw[jX])
   refine(aEU b told time num st M wd.drew ⟨out,HI.out.drew,World.ownsRow.drew HOW.out⟩ (HO.out.1 1) nn aMh.out).mono ?_;rintro e w3 ⟨rfl,JD,hb3⟩;have HM3:=bW JD;have HB3:=bW hb3;clear JD hb3;generalize M.call time nn=L at *;obtain⟨M2,le⟩:=L;go_wp2_with fail;go_ret3
   rw[←HRR.out];unfold avI;by_cases he:le=0
   ·subst he;simp only[ne_eq,not_true_eq_false,if_false];exact⟨⟨rfl,HM3.out⟩,(show Below b w _ from anj).trans HB3.out⟩
   ·simp only[ne_eq,he,not_false_eq_true,if_true];exact⟨⟨⟨_,rfl⟩,he⟩,(show Below b w _ from anj).trans HB3.out⟩
  ·as_aux_lemma =>
   have JM:oJ y:=HY.out▸HO.out.second _;have hyN:sG y:=HY.out▸HN.out.second ⟨c,d,s,r,o,nn⟩ HNN.out;have hR2:(if(qM c (M.regs d) y).2≠0 then JZ.err (qM c (M.regs d) y).2 else .go { M with regs:=upd M.regs d (qM c (M.regs d) y).1} (pc+1))=R:=by
    rw[←HR.out];by_cases h13:c=13
    ·subst h13;have e:y=⟨1,0,0⟩:=by
      rw[HY.out];have:=HBAD.out;unfold bad two at this;have r0:r=false:=by
       cases r
       ·rfl
       ·exfalso;apply this;right;right;left;exact⟨by omega,rfl⟩
      have n0:nn=0:=bQ;subst r0 n0;unfold dM.second Val.num;simp
     rw[aMc,e]
    ·rw[aMd _ _ _ _ bQ,HY.out]
   have HRR:=bW hR2;clear hR2;have t28:(c==28)=false:=lW;have t14:(c==14)=false:=lW;have t25:(c==25)=false:=lW;have t26:(c==26)=false:=lW;have t27:(c==27)=false:=lW;have t15:decide (15≤c)=false:=eU;have HVO:=bW JM;have HVN:=bW hyN;clear JM hyN hcc;go_wp2_with (go_at_call 58;refine(mg _ _).mono ?_;rintro e w' ⟨rfl,rfl⟩;rw[jX]);go_region;all_goals go_wp2_with (go_at_call 58;refine(mg _ _).mono ?_;rintro e w' ⟨rfl,rfl⟩;rw[jX])
   have hK:=aIa b told time num st out M wd.drew HI.out.drew c d dN y (HO.out.1 d) HVO.out (HN.out.1 d).1 HVN.out.1 (HN.out.1 d).2 (.pointer (some ⟨b,0,none⟩));unfold amQ at hK;refine hK.mono ?_;clear hK;rintro e w3 ⟨rfl,hI3,hb3⟩;have HI3:=bW hI3;have HB3:=bW hb3;clear hI3 hb3;generalize qM c (M.regs d) y=L at *;obtain⟨v,le⟩:=L;go_wp2_with fail;go_ret3
   rw[←HRR.out];unfold avI;have hB:=(show Below b w _ from anj).trans (HB3.out.below (Nat.le_of_lt (show b<wd.drew.heap.size by simp;omega)));by_cases he:le=0
   ·subst he;have hi:=HI3.out;simp only[if_true]at hi;simp only[ne_eq,not_true_eq_false,if_false];exact⟨⟨rfl,vW.but (M:=M) (World.ownsRow.drew HOW.out) HB3.out hi rfl⟩,hB⟩
   ·simp only[ne_eq,he,not_false_eq_true,if_true];exact⟨⟨⟨_,rfl⟩,he⟩,hB⟩
end Go.Proofs.YtglilddlhibogaaGreatDoor.W
