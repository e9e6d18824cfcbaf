/- A part of the proof; each theorem states its conditions. -/
import Derived.Test.YtglilddlhibogaaGreatDoorWalkRefB3
import Derived.Test.YtglilddlhibogaaGreatDoorZZ5
import Derived.Deep.AppendLies
import Derived.Deep.CutBlock
set_option linter.unusedSimpArgs false
set_option linter.unusedVariables false
set_option maxRecDepth 100000
set_option maxHeartbeats 100000000
namespace Go.Proofs.YtglilddlhibogaaGreatDoor.P
open Go.RowKit
def EG(v:Val)(k:Nat):Value:=aU (if k=0 then v.kind else if k=1 then v.n else v.cell)
theorem aeT(v:Val):EG v 0=aU v.kind:=rfl
theorem ajF(v:Val):EG v 1=aU v.n:=rfl
theorem ajH(v:Val):EG v 2=aU v.cell:=rfl
def mM(code:Value)(told:Nat→Int)(time:Int)(out:Value)(M:dM):Nat→Value:=fun j =>
 if j=0 then code else if j<34 then EG (M.regs ((j-1)/3)) ((j-1)%3)else if j<82 then EG (M.slots ((j-34)/3)) ((j-34)%3)
 else if j<90 then aU (told (j-82))else if j<106 then aU (M.cells (j-90))else if j=106 then aU time else out
variable{code:Value}{told:Nat→Int}{time:Int}{out:Value}{M:dM}
theorem Ih{r k j:Nat}(hr:r<11)(hk:k<3)(hj:j=1+r*3+k):mM code told time out M j=EG (M.regs r) k:=by
 subst hj;unfold mM;rw[dw bQ,dB bQ,show(1+r*3+k-1)/3=r by omega,show(1+r*3+k-1)%3=k by omega]
theorem ags{r k j:Nat}(hr:r<16)(hk:k<3)(hj:j=34+r*3+k):mM code told time out M j=EG (M.slots r) k:=by
 subst hj;unfold mM;rw[dw bQ,dw bQ,dB bQ,show(34+r*3+k-34)/3=r by omega,show(34+r*3+k-34)%3=k by omega]
theorem aOe{r j:Nat}(hr:r<8)(hj:j=82+r):mM code told time out M j=aU (told r):=by
 subst hj;unfold mM;rw[dw bQ,dw bQ,dw bQ,dB bQ,show 82+r-82=r by omega]
theorem awf{r j:Nat}(hr:r<16)(hj:j=90+r):mM code told time out M j=aU (M.cells r):=by
 subst hj;unfold mM;rw[dw bQ,dw bQ,dw bQ,dw bQ,dB bQ,show 90+r-90=r by omega]
theorem asb{r:Nat}(hr:r<11)(v:Val):∀ j,j<108→upd (upd (upd (mM code told time out M) (1+r*3) (EG v 0)) (1+r*3+1) (EG v 1)) (1+r*3+2) (EG v 2) j =
  mM code told time out { M with regs:=upd M.regs r v} j:=by
 intro j hj;by_cases h2:j=1+r*3+2
 ·rw[Ih hr (bQ:2<3) h2,h2,upd_same];simp[upd_same]
 by_cases h1:j=1+r*3+1
 ·rw[Ih hr (bQ:1<3) h1,fB h2,h1,upd_same];simp[upd_same]
 by_cases h0:j=1+r*3
 ·rw[Ih hr (bQ:0<3) h0,fB h2,fB h1,h0,upd_same];simp[upd_same]
 refine amJ ?_;unfold mM;simp only;exact auS
theorem aOf{r:Nat}(hr:r<16)(v:Val):∀ j,j<108→upd (upd (upd (mM code told time out M) (34+r*3) (EG v 0)) (34+r*3+1) (EG v 1)) (34+r*3+2) (EG v 2) j =
  mM code told time out { M with slots:=upd M.slots r v} j:=by
 intro j hj;by_cases h2:j=34+r*3+2
 ·rw[ags hr (bQ:2<3) h2,h2,upd_same];simp[upd_same]
 by_cases h1:j=34+r*3+1
 ·rw[ags hr (bQ:1<3) h1,fB h2,h1,upd_same];simp[upd_same]
 by_cases h0:j=34+r*3
 ·rw[ags hr (bQ:0<3) h0,fB h2,fB h1,h0,upd_same];simp[upd_same]
 refine amJ ?_;unfold mM;simp only;split
 ·rfl
 exact auS
theorem aOg{r:Nat}(hr:r<16)(n:Int):∀ j,j<108→upd (mM code told time out M) (90+r) (aU n) j=mM code told time out { M with cells:=upd M.cells r n} j:=by
 intro j hj;by_cases h0:j=90+r
 ·rw[awf hr h0,h0,upd_same];simp[upd_same]
 rw[fB h0];unfold mM;simp only;split
 ·rfl
 split
 ·rfl
 split
 ·rfl
 exact auS
theorem aOh(v:Value)(l:List Int):∀ j,j<108→upd (mM code told time out M) 107 v j=mM code told time v { M with out:=l} j:=by
 intro j hj;by_cases h0:j=107
 ·exact amK
 rw[fB h0];unfold mM;simp only;exact apm
theorem Img.gu{w:World}{b:Nat}(h:Img w b 108 (mM code told time out M)){r i0 i1 i2:Nat}(hr:r<11)(k n c:Int)(e0:i0=1+r*3)(e1:i1=1+r*3+1)(e2:i2=1+r*3+2) :
  Img (((w.setCell ⟨b,i0,none⟩ (aU k)).setCell ⟨b,i1,none⟩ (aU n)).setCell ⟨b,i2,none⟩ (aU c)) b 108 (mM code told time out { M with regs:=upd M.regs r ⟨k,n,c⟩}):=by
 subst e0 e1 e2;exact(((h.set (j:=1+r*3) bQ (EG ⟨k,n,c⟩ 0)).set (j:=1+r*3+1) bQ (EG ⟨k,n,c⟩ 1)).set (j:=1+r*3+2) bQ (EG ⟨k,n,c⟩ 2)).congr (asb hr ⟨k,n,c⟩)
theorem Img.aOi{w:World}{b:Nat}(h:Img w b 108 (mM code told time out M)){r i:Nat}(hr:r<11)(n:Int)(e:i=1+r*3+1) :
  Img (w.setCell ⟨b,i,none⟩ (aU n)) b 108 (mM code told time out { M with regs:=upd M.regs r ⟨(M.regs r).kind,n,(M.regs r).cell⟩}):=by
 subst e;refine(h.set (j:=1+r*3+1) bQ _).congr fun j hj=>?_;rw[←asb hr ⟨(M.regs r).kind,n,(M.regs r).cell⟩ j hj];by_cases h1:j=1+r*3+1
 ·rw[h1,upd_same,fB bQ,upd_same];rfl
 rw[fB h1];by_cases h2:j=1+r*3+2
 ·rw[h2,upd_same,Ih hr (bQ:2<3) rfl];rfl
 by_cases h0:j=1+r*3
 ·rw[h0,fB bQ,fB bQ,upd_same,Ih hr (bQ:0<3) bQ];rfl
 rw[fB h2,fB h1,fB h0]
theorem Img.aOj{w:World}{b:Nat}(h:Img w b 108 (mM code told time out M))(v:Value)(l:List Int) :
  Img (w.setCell ⟨b,107,none⟩ v) b 108 (mM code told time v { M with out:=l}):=(h.set (j:=107) bQ v).congr (aOh v l)
theorem aqQ{α:Type}(f:Nat→α)(i:Nat)(u v:α):upd (upd f i u) i v=upd f i v:=by
 exact asw
end Go.Proofs.YtglilddlhibogaaGreatDoor.P
namespace Go.Proofs.YtglilddlhibogaaGreatDoor.W
open Go.RowKit Go.Proofs.YtglilddlhibogaaGreatDoor.P
theorem aOk(b:Nat)(code:Value)(told:Nat→Int)(time:Int)(out:Value)(M:dM)(w:World)(hI:Img w b 108 (mM code told time out M))(c d:Int)(k:Nat)(hk:k<11)(o n:Int) :
  Calls Tryz.prog 83 #[.pointer (some ⟨b,0,none⟩),.agg #[aU c,aU d,aU k,.bool true,aU o,aU n]] w fun e w' =>
   e=.returned (.agg #[aU (M.regs k).kind,aU (M.regs k).n,aU (M.regs k).cell])∧Below w.heap.size w w':=by
 refine KE ?_;intro HW0 hlt;have i0:(0:Int)≤(k:Int):=bQ;have i1:(k:Int)<11:=bQ;have c0:=(hI.cell (1+k*3) bQ).trans (congrArg some (Ih hk (bQ:0<3) bQ));have c1:=(hI.cell (1+k*3+1) bQ).trans (congrArg some (Ih hk (bQ:1<3) bQ));have c2:=(hI.cell (1+k*3+2) bQ).trans (congrArg some (Ih hk (bQ:2<3) bQ));rw[aeT]at c0;rw[ajF]at c1;rw[ajH]at c2;have HI:=bW hI;clear hI;go_enter Tryz.func83,Tryz.ntmps83;go_wp2_with fail;go_region;all_goals
  go_wp2_with fail;refine bodyPost_ret ?_ rfl ⟨rfl,gI⟩;simp[results,Tryz.results83,go_sem]
theorem aOl(p:Value)(w:World)(c d k o n:Int) :
  Calls Tryz.prog 83 #[p,.agg #[aU c,aU d,aU k,.bool false,aU o,aU n]] w fun e w' =>
   e=.returned (.agg #[aU 1,aU n,aU 0])∧Below w.heap.size w w':=by
 refine fU ?_;intro HW0;go_enter Tryz.func83,Tryz.ntmps83;go_wp2_with fail;refine bodyPost_ret ?_ rfl ⟨rfl,gI⟩;simp[results,Tryz.results83,go_sem]
theorem ada(v:Val)(o:Int)(hk:v.kind=0∨v.kind=1∨v.kind=2∨v.kind=3∨v.kind=4)(w:World) :
  Calls Tryz.prog 119 #[.agg #[aU v.kind,aU v.n,aU v.cell],aU o] w fun e w'=>e=.returned (.tuple #[aU (P.far v o).1,aU (P.far v o).2])∧Below w.heap.size w w':=by
 refine fU ?_;intro HW0;obtain⟨kind,n,cell⟩:=v;simp only at hk;unfold P.far low high;simp only;rcases hk with rfl|rfl|rfl|rfl|rfl
 all_goals
  simp only[show¬(1:Int)=0 by decide,show¬(2:Int)=0 by decide,show¬(3:Int)=0 by decide,show¬(4:Int)=0 by decide,show¬(2:Int)=1 by decide,show¬(3:Int)=1 by decide,show¬(4:Int)=1 by decide,show¬(2:Int)=3 by decide,show¬(4:Int)=3 by decide,show¬(2:Int)=4 by decide,show¬(3:Int)=4 by decide,if_true,if_false]
 all_goals
  (try generalize hw:wrap64 (n+o)=k)
  go_enter Tryz.func119,Tryz.ntmps119;go_wp2_with fail
 all_goals
  go_ret2
  refine⟨?_,gI⟩;first|rfl|(rw[dB bQ])|(rw[dw bQ])
theorem aER(c ka na ca kb nb cb:Int)(w:World) :
  Calls Tryz.prog 85 #[aU c,.agg #[aU ka,aU na,aU ca],.agg #[aU kb,aU nb,aU cb]] w fun e w' =>
   e=.returned (.tuple #[.agg #[aU (qM c ⟨ka,na,ca⟩ ⟨kb,nb,cb⟩).1.kind,aU (qM c ⟨ka,na,ca⟩ ⟨kb,nb,cb⟩).1.n,aU (qM c ⟨ka,na,ca⟩ ⟨kb,nb,cb⟩).1.cell],aU (qM c ⟨ka,na,ca⟩ ⟨kb,nb,cb⟩).2])∧Below w.heap.size w w':=by
 refine fU ?_;intro HW0;unfold qM Val.none Val.num;simp only;by_cases b0:kb=0<;>by_cases a0:ka=0<;>by_cases c1:c=1<;>by_cases a1:ka=1<;>by_cases b1:kb=1<;>by_cases c2:c=2<;>by_cases c3:c=3
 all_goals (first|(exfalso;omega)|skip)
 all_goals
  simp only[b0,a0,c1,a1,b1,c2,c3,true_or,or_true,false_or,or_false,true_and,and_true,false_and,and_false,not_true,not_false_iff,if_true,if_false,ne_eq]
 all_goals (try subst b0);(try subst a0);(try subst c1);(try subst a1);(try subst b1);(try subst c2);(try subst c3)
 all_goals
  go_enter Tryz.func85,Tryz.ntmps85;go_wp2_with (go_at_call 120;refine(aFy _ _ _ _).mono ?_;rintro e w' ⟨rfl,rfl⟩)
 all_goals
  first
  |(exfalso;simp_all;done)
  |(refine bodyPost_ret ?_ rfl ⟨rfl,gI⟩;simp[results,Tryz.results85,go_sem];done)
theorem arB{v:Val}{o:Int}(h:(P.far v o).2=0)(hk:v.kind≠0∧v.kind≠1):low v.kind≤(P.far v o).1∧(P.far v o).1≤high v.kind:=by
 unfold P.far at *;rw[dw hk.1,dw hk.2]at *;split at h
 ·simp at h
 ·rename_i h';rw[dw h'];simp only;omega
theorem arA{v:Val}{o:Int}(h:(P.far v o).2=0):v.kind≠0∧v.kind≠1:=by
 unfold P.far at h;constructor<;>(intro e;simp[e]at h)
theorem aOm(b:Nat)(told:Nat→Int)(M:dM)(w:World)(v:Val)(hv:oJ v)(o k er:Int)(hke:P.far v o=(k,er))(he:er≠0) :
  Calls Tryz.prog 81 #[.pointer (some ⟨b,0,none⟩),.agg #[aU v.kind,aU v.n,aU v.cell],aU o] w fun e w' =>
   e=.returned (.tuple #[.agg #[aU 0,aU 0,aU 0],aU er])∧Below w.heap.size w w':=by
 refine fU ?_;intro HW0;have HK:=bW hke;clear hke;have he2:(er==0)=false:=aul;go_enter Tryz.func81,Tryz.ntmps81;go_wp2_with fail;refine(ada v o hv.1 _).mono ?_;rw[HK.out];refine Uy ?_;intro w1 hc1 hf1 hz1 HW1 z10 z11;refine aaL ?_;intro zX zZ Af Ah Ai Aj;exact aEQ
theorem aOn(b:Nat)(code:Value)(told:Nat→Int)(time:Int)(out:Value)(M:dM)(w:World)(hI:Img w b 108 (mM code told time out M))(n cell o:Int)(q:Nat)(hq:q<8)(hke:P.far ⟨2,n,cell⟩ o=((q:Int),0)) :
  Calls Tryz.prog 81 #[.pointer (some ⟨b,0,none⟩),.agg #[aU 2,aU n,aU cell],aU o] w fun e w' =>
   e=.returned (.tuple #[.agg #[aU 1,aU (told q),aU 0],aU 0])∧Below w.heap.size w w':=by
 refine KE ?_;intro HW0 hlt;have q7:(q:Int)<8:=bQ;have HI:=bW hI;have HK:=bW hke;clear hI hke;go_enter Tryz.func81,Tryz.ntmps81;go_wp2_with fail;refine(ada ⟨2,n,cell⟩ o dY _).mono ?_;rw[HK.out];refine Uy ?_;intro w1 hc1 hf1 hz1 HW1 z10 z11
 (have rQ:w1.cell? ⟨w.heap.size,0,none⟩=some (aU 2):=fH;have uM:w1.frozen? ⟨w.heap.size,0,none⟩=false:=fO;have uN:w1.cell? ⟨w.heap.size,1,none⟩=some (aU n):=fH;have uO:w1.frozen? ⟨w.heap.size,1,none⟩=false:=fO;have yU:w1.cell? ⟨w.heap.size,2,none⟩=some (aU cell):=fH;have yX:w1.frozen? ⟨w.heap.size,2,none⟩=false:=fO)
 refine aaL ?_;intro zX zZ Af Ah Ai Aj;have c1:w1.cell? ⟨b,82+q,none⟩=some (aU (told q)):=((HI.out.later HW1.out hlt).cell _ bQ).trans (congrArg some (aOe hq bQ));exact aEQ
theorem aOo(b:Nat)(code:Value)(told:Nat→Int)(time:Int)(out:Value)(M:dM)(w:World)(hI:Img w b 108 (mM code told time out M))(n o:Int)(cell q:Nat)(hc:cell<4)(hq:q<4)(hke:P.far ⟨4,n,cell⟩ o=((q:Int),0)) :
  Calls Tryz.prog 81 #[.pointer (some ⟨b,0,none⟩),.agg #[aU 4,aU n,aU cell],aU o] w fun e w' =>
   e=.returned (.tuple #[.agg #[aU 1,aU (M.cells (cell*4+q)),aU 0],aU 0])∧Below w.heap.size w w':=by
 refine KE ?_;intro HW0 hlt;have q7:(q:Int)<4:=bQ;have q8:(cell:Int)<4:=bQ;have HI:=bW hI;have HK:=bW hke;clear hI hke;go_enter Tryz.func81,Tryz.ntmps81;go_wp2_with fail;refine(ada ⟨4,n,cell⟩ o dY _).mono ?_;rw[HK.out];refine Uy ?_;intro w1 hc1 hf1 hz1 HW1 z10 z11;refine aBQ ?_;intro rQ uM uN uO yU yX;refine aaL ?_;intro zX zZ Af Ah Ai Aj;have c1:w1.cell? ⟨b,90+cell*4+q,none⟩=some (aU (M.cells (cell*4+q))):=((HI.out.later HW1.out hlt).cell _ bQ).trans (congrArg some (awf (bQ:cell*4+q<16) bQ));clear hc1 hf1;go_wp2_with fail;go_region;all_goals
  go_wp2_with fail;refine bodyPost_ret ?_ rfl ⟨rfl,jZ⟩;simp[results,Tryz.results81,go_sem, *]
theorem aOp(b:Nat)(code:Value)(told:Nat→Int)(time:Int)(out:Value)(M:dM)(w:World)(hI:Img w b 108 (mM code told time out M))(n o cell:Int)(q:Nat)(hq:q<16)(hke:P.far ⟨3,n,cell⟩ o=((q:Int)-16,0)) :
  Calls Tryz.prog 81 #[.pointer (some ⟨b,0,none⟩),.agg #[aU 3,aU n,aU cell],aU o] w fun e w' =>
   e=.returned (.tuple #[.agg #[aU (if(M.slots q).kind=0 then 0 else(M.slots q).kind),aU (if(M.slots q).kind=0 then 0 else(M.slots q).n),aU (if(M.slots q).kind=0 then 0 else(M.slots q).cell)],aU (if(M.slots q).kind=0 then 8 else 0)])∧Below w.heap.size w w':=by
 refine KE ?_;intro HW0 hlt;have q7:(q:Int)<16:=bQ;have HI:=bW hI;have HK:=bW hke;clear hI hke;have e16:(q:Int)-16+16=q:=bQ;by_cases hz:(M.slots q).kind=0
 ·simp only[hz,if_true];have hz2:((M.slots q).kind==0)=true:=by rw[beq_iff_eq];exact hz
  clear hz;go_enter Tryz.func81,Tryz.ntmps81;go_wp2_with fail;refine atY ?_;intro w1 hc1 hf1 hz1 HW1 z10 z11 rQ uM uN uO yU yX;refine aaL ?_;intro zX zZ Af Ah Ai Aj;have d0:w1.cell? ⟨b,34+q*3,none⟩=some (aU 0):=((HI.out.later HW1.out hlt).cell _ bQ).trans (congrArg some ((ags hq (bQ:0<3) bQ).trans ((aeT _).trans (by rw[beq_iff_eq.1 hz2]))));exact aEP
 ·simp only[hz,if_false];have hz2:((M.slots q).kind==0)=false:=by rw[beq_eq_false_iff_ne];exact hz
  clear hz;go_enter Tryz.func81,Tryz.ntmps81;go_wp2_with fail;refine atY ?_;intro w1 hc1 hf1 hz1 HW1 z10 z11 rQ uM uN uO yU yX;refine aaL ?_;intro zX zZ Af Ah Ai Aj;have d0:w1.cell? ⟨b,34+q*3,none⟩=some (aU (M.slots q).kind):=((HI.out.later HW1.out hlt).cell _ bQ).trans (congrArg some ((ags hq (bQ:0<3) bQ).trans (aeT _)));exact aEP
theorem aOq(b:Nat)(w:World)(v x:Val)(hv:oJ v)(o k er r:Int)(hke:P.far v o=(k,er))
  (h:(er≠0∧r=er)∨(er=0∧v.kind=2∧r=6)∨(er=0∧v.kind≠2∧x.kind=0∧r=8)∨(er=0∧v.kind≠2∧x.kind≠0∧v.kind≠3∧x.kind≠1∧r=1)) :
  Calls Tryz.prog 82 #[.pointer (some ⟨b,0,none⟩),.agg #[aU v.kind,aU v.n,aU v.cell],aU o,.agg #[aU x.kind,aU x.n,aU x.cell]] w fun e w' =>
   e=.returned (aU r)∧Below w.heap.size w w':=by
 refine fU ?_;intro HW0;have HK:=bW hke;clear hke;rcases h with ⟨h1,rfl⟩|⟨rfl,h2,rfl⟩|⟨rfl,h2,h3,rfl⟩|⟨rfl,h2,h3,h4,h5,rfl⟩
 ·have he2:(r==0)=false:=by rw[beq_eq_false_iff_ne];exact h1
  go_enter Tryz.func82,Tryz.ntmps82;go_wp2_with fail;refine(ada v o hv.1 _).mono ?_;rw[HK.out];refine Uy ?_;intro w1 hc1 hf1 hz1 HW1 z10 z11;exact aqV
 ·have e2:(v.kind==2)=true:=by rw[beq_iff_eq];exact h2
  clear h2;go_enter Tryz.func82,Tryz.ntmps82;go_wp2_with fail;refine(ada v o hv.1 _).mono ?_;rw[HK.out];refine Uy ?_;intro w1 hc1 hf1 hz1 HW1 z10 z11
  (have rQ:w1.cell? ⟨w.heap.size,0,none⟩=some (aU v.kind):=fH;have uM:w1.frozen? ⟨w.heap.size,0,none⟩=false:=fO;have uN:w1.cell? ⟨w.heap.size,1,none⟩=some (aU v.n):=fH;have uO:w1.frozen? ⟨w.heap.size,1,none⟩=false:=fO;have yU:w1.cell? ⟨w.heap.size,2,none⟩=some (aU v.cell):=fH;have yX:w1.frozen? ⟨w.heap.size,2,none⟩=false:=fO)
  exact aqV
 ·have e2:(v.kind==2)=false:=aqk;have e3:(x.kind==0)=true:=by rw[beq_iff_eq];exact h3
  clear h2 h3;exact aEO
 ·have e2:(v.kind==2)=false:=aqk;have e3:(x.kind==0)=false:=by rw[beq_eq_false_iff_ne];exact h3
  have e4:(v.kind==3)=false:=by rw[beq_eq_false_iff_ne];exact h4
  have e5:(x.kind==1)=false:=by rw[beq_eq_false_iff_ne];exact h5
  exact aEO
theorem aOr(b:Nat)(code:Value)(told:Nat→Int)(time:Int)(out:Value)(M:dM)(w:World)(hI:Img w b 108 (mM code told time out M))(n o cell:Int)(x:Val)(hx:x.kind≠0)(q:Nat)(hq:q<16)(hke:P.far ⟨3,n,cell⟩ o=((q:Int)-16,0)) :
  Calls Tryz.prog 82 #[.pointer (some ⟨b,0,none⟩),.agg #[aU 3,aU n,aU cell],aU o,.agg #[aU x.kind,aU x.n,aU x.cell]] w fun e w' =>
   e=.returned (aU 0)∧Img w' b 108 (mM code told time out { M with slots:=upd M.slots q x})∧But b w w':=by
 refine KE ?_;intro HW0 hlt;have q7:(q:Int)<16:=bQ;have HI:=bW hI;have HK:=bW hke;clear hI hke;have e16:(q:Int)-16+16=q:=bQ;have e3:(x.kind==0)=false:=by rw[beq_eq_false_iff_ne];exact hx
 go_enter Tryz.func82,Tryz.ntmps82;go_wp2_with fail;refine atY ?_;intro w1 hc1 hf1 hz1 HW1 z10 z11 rQ uM uN uO yU yX
 (have zX:w1.cell? ⟨w.heap.size+1,0,none⟩=some (aU x.kind):=fH;have zZ:w1.frozen? ⟨w.heap.size+1,0,none⟩=false:=fO;have Af:w1.cell? ⟨w.heap.size+1,1,none⟩=some (aU x.n):=fH;have Ah:w1.frozen? ⟨w.heap.size+1,1,none⟩=false:=fO;have Ai:w1.cell? ⟨w.heap.size+1,2,none⟩=some (aU x.cell):=fH;have Aj:w1.frozen? ⟨w.heap.size+1,2,none⟩=false:=fO)
 have I1:=HI.out.later HW1.out hlt;have d0:=I1.cell (34+q*3) bQ;have d1:=I1.cell (34+q*3+1) bQ;have d2:=I1.cell (34+q*3+2) bQ;have s0:=I1.free (34+q*3) bQ;have s1:=I1.free (34+q*3+1) bQ;have s2:=I1.free (34+q*3+2) bQ;have HI1:=bW I1;clear hc1 hf1 I1;go_wp2_with fail;go_region;all_goals
  go_wp2_with fail;go_ret
  refine⟨rfl,?_,at7⟩;have K:=(((HI1.out.set (j:=34+q*3) bQ (EG x 0)).set (j:=34+q*3+1) bQ (EG x 1)).set (j:=34+q*3+2) bQ (EG x 2)).congr (aOf hq x);exact K
theorem aOs(b:Nat)(code:Value)(told:Nat→Int)(time:Int)(out:Value)(M:dM)(w:World)(hI:Img w b 108 (mM code told time out M))(n o:Int)(xn xc:Int)(cell q:Nat)(hc:cell<4)(hq:q<4)(hke:P.far ⟨4,n,cell⟩ o=((q:Int),0)) :
  Calls Tryz.prog 82 #[.pointer (some ⟨b,0,none⟩),.agg #[aU 4,aU n,aU cell],aU o,.agg #[aU 1,aU xn,aU xc]] w fun e w' =>
   e=.returned (aU 0)∧Img w' b 108 (mM code told time out { M with cells:=upd M.cells (cell*4+q) xn})∧But b w w':=by
 refine KE ?_;intro HW0 hlt;have q7:(q:Int)<4:=bQ;have q8:(cell:Int)<4:=bQ;have HI:=bW hI;have HK:=bW hke;clear hI hke;go_enter Tryz.func82,Tryz.ntmps82;go_wp2_with fail;refine(ada ⟨4,n,cell⟩ o dY _).mono ?_;rw[HK.out];refine Uy ?_;intro w1 hc1 hf1 hz1 HW1 z10 z11;refine aBQ ?_;intro rQ uM uN uO yU yX
 (have zX:w1.cell? ⟨w.heap.size+1,0,none⟩=some (aU 1):=fH;have zZ:w1.frozen? ⟨w.heap.size+1,0,none⟩=false:=fO;have Af:w1.cell? ⟨w.heap.size+1,1,none⟩=some (aU xn):=fH;have Ah:w1.frozen? ⟨w.heap.size+1,1,none⟩=false:=fO;have Ai:w1.cell? ⟨w.heap.size+1,2,none⟩=some (aU xc):=fH;have Aj:w1.frozen? ⟨w.heap.size+1,2,none⟩=false:=fO)
 have I1:=HI.out.later HW1.out hlt;have d0:=I1.cell (90+cell*4+q) bQ;have s0:=I1.free (90+cell*4+q) bQ;have HI1:=bW I1;clear hc1 hf1 I1;go_wp2_with fail;go_region;all_goals
  go_wp2_with fail;go_ret
  refine⟨rfl,?_,at7⟩;have K:=(HI1.out.set (j:=90+cell*4+q) bQ (aU xn)).congr (fun j hj=>(congrFun (congrFun (congrArg _ (Nat.add_assoc 90 (cell*4) q)) _) _).trans (aOg (bQ:cell*4+q<16) xn j hj));exact K
def CZ(f:Nat→Val)(k:Nat):Nat→Val:=fun j=>if 1≤j∧j<k then Val.none else f j
theorem acC(f:Nat→Val):CZ f 1=f:=by funext j;unfold CZ;rw[dw bQ]
theorem aoB(f:Nat→Val){k:Nat}(hk:1≤k):upd (CZ f k) k Val.none=CZ f (k+1):=by
 funext j
 by_cases h:j=k
 ·subst h;rw[upd_same];unfold CZ;rw[dB bQ]
 ·rw[fB h];unfold CZ;exact auv
def wu(w:World)(b:Nat)(code:Value)(told:Nat→Int)(time:Int)(M:dM):Prop :=
 ∃ out,Img w b 108 (mM code told time out M)∧w.ownsRow (b+1) 2 1 out M.out.length (M.out.map (Value.int .i64))
theorem aOt(b:Nat)(code:Value)(told:Nat→Int)(time:Int)(out:Value)(M:dM)(w:World)(hI:Img w b 108 (mM code told time out M))(n:Int)(hn:n≠2)(x:Val)(hx:M.regs 1=x)(hk:x.kind≠1) :
  Calls Tryz.prog 84 #[.pointer (some ⟨b,0,none⟩),aU n] w fun e w'=>e=.returned (aU (if x.kind=0 then 8 else 1))∧Below w.heap.size w w':=by
 refine fU ?_;intro HW0;refine apN ?_;intro c0 c1 c2;have HI:=bW hI;have HX:=bW hx;clear hI hx;have n2:(n !=2)=true:=by rw[bne_iff_ne];exact hn
 have k2:(x.kind==1)=false:=by rw[beq_eq_false_iff_ne];exact hk
 clear hn hk;by_cases k1:x.kind=0
 ·rw[dB k1];have q1:(x.kind==0)=true:=by rw[beq_iff_eq];exact k1
  clear k1;go_enter Tryz.func84,Tryz.ntmps84;exact YG
 ·rw[dw k1];have q1:(x.kind==0)=false:=by rw[beq_eq_false_iff_ne];exact k1
  clear k1;go_enter Tryz.func84,Tryz.ntmps84;exact YG
theorem aOu(b:Nat)(code:Value)(told:Nat→Int)(time:Int)(out:Value)(M:dM)(w:World)(hI:Img w b 108 (mM code told time out M))(xn xc:Int)(hx:M.regs 1=⟨1,xn,xc⟩) :
  Calls Tryz.prog 84 #[.pointer (some ⟨b,0,none⟩),aU 1] w fun e w'=>e=.returned (aU 0)∧Img w' b 108 (mM code told time out (M.call time 1).1)∧But b w w':=by
 refine KE ?_;intro HW0 hlt;refine apN ?_;intro c0 c1 c2;have hfin:∀ r:Val,(if 0≤xn∧xn<4 then(⟨4,0,xn⟩:Val)else .num 0)=r→{ M with regs:=upd (CZ M.regs 6) 0 r}=(M.call time 1).1:=by
  intro r hr;unfold dM.call;rw[hx,dw dY,dw dY];simp only[if_true,hr];exact auh
 have HF:=bW hfin;have HI:=bW hI;have HX:=bW hx;clear hI hx hfin;go_enter Tryz.func84,Tryz.ntmps84;go_wp2_with fail;go_loopw [6] (fun i wr=>∃ k:Nat,1≤k∧k≤6∧i=aU k∧Img wr b 108 (mM code told time out { M with regs:=CZ M.regs k})∧But b w wr∧wr.cell? ⟨w.heap.size,1,none⟩=some (aU xn)∧w.heap.size<wr.heap.size) (fun i _=>6-(intOf i).toNat)
 case atStart=>exact⟨1,by omega,by omega,rfl,by rw[acC];exact HI.out.alloc _,ajE,by simp[go_sem],by simp⟩
 case round =>
  obtain⟨k,hk1,hk6,rfl,hI,hB,hx,hz⟩:=hrel;have hne:¬w.heap.size=b:=bQ;have hne2:¬b=w.heap.size:=bQ;by_cases h:k≤5
  ·exact asa
  ·obtain rfl:k=6:=bQ;refine auB ?_;intro d0 d1 d2 s0 s1 s2 HI1 HB1;clear hI hB;go_wp2_with fail
   ·go_region;all_goals
     go_wp2_with fail;go_ret
     refine⟨rfl,?_,?_⟩
     ·rw[←HF.out ⟨4,0,xn⟩ (dB bQ)];have K:=(HI1.out.gu (r:=0) bQ 1 0 0 rfl rfl rfl).gu (r:=0) bQ 4 0 xn rfl rfl rfl;dsimp only at K;rw[aqQ]at K;with_reducible exact K.drew
     ·with_reducible exact((((((HB1.out.setCell (.inl rfl) _).setCell (.inl rfl) _).setCell (.inl rfl) _).setCell (.inl rfl) _).setCell (.inl rfl) _).setCell (.inl rfl) _).drew
   all_goals
    go_ret
    refine⟨rfl,?_,?_⟩
    ·rw[←HF.out (.num 0) (dw bQ)];exact HI1.out.gu (r:=0) bQ 1 0 0 rfl rfl rfl
    ·exact((HB1.out.setCell (.inl rfl) _).setCell (.inl rfl) _).setCell (.inl rfl) _
theorem aOv(b:Nat)(code:Value)(told:Nat→Int)(time:Int)(out:Value)(M:dM)(w:World)(hI:Img w b 108 (mM code told time out M))(xk xn xc:Int)(hx:M.regs 1=⟨xk,xn,xc⟩) :
  Calls Tryz.prog 84 #[.pointer (some ⟨b,0,none⟩),aU 2] w fun e w'=>e=.returned (aU 0)∧Img w' b 108 (mM code told time out (M.call time 2).1)∧But b w w':=by
 refine KE ?_;intro HW0 hlt;refine apN ?_;intro c0 c1 c2;have hfin:{ M with regs:=upd (CZ M.regs 6) 0 (.num time)}=(M.call time 2).1:=by
  unfold dM.call;rw[dw dY,dw dY];simp only[show¬(2:Int)=1 by decide,if_true,if_false,not_true,and_false,false_and];exact auh
 have HF:=bW hfin;have HI:=bW hI;have HX:=bW hx;clear hI hx hfin;go_enter Tryz.func84,Tryz.ntmps84;go_wp2_with fail;go_loopw [6] (fun i wr=>∃ k:Nat,1≤k∧k≤6∧i=aU k∧Img wr b 108 (mM code told time out { M with regs:=CZ M.regs k})∧But b w wr∧wr.cell? ⟨w.heap.size,1,none⟩=some (aU xn)∧w.heap.size<wr.heap.size) (fun i _=>6-(intOf i).toNat)
 case atStart=>exact⟨1,by omega,by omega,rfl,by rw[acC];exact HI.out.alloc _,ajE,by simp[go_sem],by simp⟩
 case round =>
  obtain⟨k,hk1,hk6,rfl,hI,hB,hx,hz⟩:=hrel;have hne:¬w.heap.size=b:=bQ;have hne2:¬b=w.heap.size:=bQ;by_cases h:k≤5
  ·exact asa
  ·obtain rfl:k=6:=bQ;refine auB ?_;intro d0 d1 d2 s0 s1 s2 HI1 HB1;have d6:wr.cell? ⟨b,106,none⟩=some (aU time):=HI1.out.cell 106 bQ;clear hI hB;go_wp2_with fail;go_region;all_goals
    go_wp2_with fail;go_ret
    refine⟨rfl,?_,?_⟩
    ·rw[←HF.out];have K:=(HI1.out.gu (r:=0) bQ 1 0 0 rfl rfl rfl).aOi (r:=0) bQ time rfl;dsimp only at K;rw[aqQ,upd_same]at K;dsimp only at K;unfold Val.num;with_reducible exact K.drew
    ·with_reducible exact((((HB1.out.setCell (.inl rfl) _).setCell (.inl rfl) _).setCell (.inl rfl) _).setCell (.inl rfl) _).drew
theorem avv:(Tryz.prog.info? 2).map (fun i=>(i.zero,i.size,i.bytes))=some (some (aU 0),1,8):=dF
theorem aOw(b:Nat)(code:Value)(told:Nat→Int)(time:Int)(out:Value)(M:dM)(w:World)(hI:Img w b 108 (mM code told time out M))(hO:w.ownsRow (b+1) 2 1 out M.out.length (M.out.map (Value.int .i64)))(xn xc:Int)(hx:M.regs 1=⟨1,xn,xc⟩) :
  Calls Tryz.prog 84 #[.pointer (some ⟨b,0,none⟩),aU 3] w fun e w'=>e=.returned (aU 0)∧(∃ out',Img w' b 108 (mM code told time out' (M.call time 3).1)∧w'.ownsRow (b+1) 2 1 out' (M.call time 3).1.out.length ((M.call time 3).1.out.map (Value.int .i64)))∧Below b w w':=by
 refine fU ?_;intro HW0;have HO:=bW hO;clear hO;obtain⟨og,jM,hog⟩:∃ og jM,out=.slice og M.out.length jM:=by
  rcases HO.out.2 with ⟨h1,h2⟩|⟨g,cap,cur,h1,-⟩
  ·exact⟨none,0,by rw[h1,h2]⟩
  ·exact⟨_,_,h1⟩
 subst hog;have hlt:=hI.lt bQ;refine apN ?_;intro c0 c1 c2;have hfin:{ M with regs:=upd (CZ M.regs 6) 0 (.num 0),out:=if M.out.length<50 then M.out++[xn]else M.out}=(M.call time 3).1:=by
  have e:(M.call time 3).1=⟨fun j=>if j=0 then .num 0 else if 1≤j∧j≤5 then .none else M.regs j,M.slots,M.cells,if M.out.length<50 then M.out++[xn]else M.out⟩:=by
   unfold dM.call;rw[hx];simp[Val.num]
  rw[e];exact auh
 rw[←hfin];simp only;clear hfin;have HI:=bW hI;have HX:=bW hx;clear hI hx;go_enter Tryz.func84,Tryz.ntmps84;go_wp2_with fail;go_loopw [6] (fun i wr=>∃ k:Nat,1≤k∧k≤6∧i=aU k∧Img wr b 108 (mM code told time (.slice og M.out.length jM) { M with regs:=CZ M.regs k})∧But b w wr∧wr.cell? ⟨w.heap.size,1,none⟩=some (aU xn)∧w.heap.size<wr.heap.size) (fun i _=>6-(intOf i).toNat)
 case atStart=>exact⟨1,by omega,by omega,rfl,by rw[acC];exact HI.out.alloc _,ajE,by simp[go_sem],by simp⟩
 case round =>
  obtain⟨k,hk1,hk6,rfl,hI,hB,hx,hz⟩:=hrel;have hne:¬w.heap.size=b:=bQ;have hne2:¬b=w.heap.size:=bQ;by_cases h:k≤5
  ·exact asa
  ·obtain rfl:k=6:=bQ;refine auB ?_;intro d0 d1 d2 s0 s1 s2 HI1 HB1;clear hI hB;have d7:wr.cell? ⟨b,107,none⟩=some (.slice og M.out.length jM):=HI1.out.cell 107 bQ;have K0:=HI1.out.gu (r:=0) bQ 1 0 0 rfl rfl rfl;have B0:=((HB1.out.setCell (p:=⟨b,1,none⟩) (.inl rfl) (aU 1)).setCell (p:=⟨b,2,none⟩) (.inl rfl) (aU 0)).setCell (p:=⟨b,3,none⟩) (.inl rfl) (aU 0);have O0:=HO.out.kept B0.grown apS;have OQ:=bW K0;have HB0:=bW B0;have HO0:=bW O0;clear K0 B0 O0;by_cases hl:M.out.length<50
   ·have l1:(M.out.length:Int)<50:=bQ;go_wp2_with fail;generalize hW:World.setCell (World.setCell (World.setCell wr _ _) _ _) _ _=wd;have K1:Img wd b 108 (mM code told time (.slice og M.out.length jM) { M with regs:=upd (CZ M.regs 6) 0 ⟨1,0,0⟩}):=by rw[←hW];exact OQ.out
    have B1:But b w wd:=by rw[←hW];exact HB0.out
    have O1:wd.ownsRow (b+1) 2 1 (.slice og M.out.length jM) M.out.length (M.out.map (Value.int .i64)):=by rw[←hW];exact HO0.out
    have x1:wd.cell? ⟨w.heap.size,1,none⟩=some (aU xn):=by rw[←hW];simp[go_sem,hne,hne2,hx]
    have z1:w.heap.size<wd.heap.size:=by rw[←hW];simpa using hz
    have o1:wd.cell? ⟨b,107,none⟩=some (.slice og M.out.length jM):=K1.cell 107 bQ;have f1:wd.frozen? ⟨b,107,none⟩=false:=K1.free 107 bQ;have zb:b<wd.heap.size:=bQ;have own:∀ g,(Value.slice og M.out.length jM).ownBlock=some g→b+1≤g∧g<wd.heap.size:=O1.lt;clear hW d7 d0 d1 d2 s0 s1 s2 hx hz;refine aAK ?_;intro NB NW hK1 hB1 hO1 anv;clear K1 B1 O1 own;obtain⟨i0,hi0,hz0,hz1,hz2⟩:=info_parts avv;go_region_law (first|((refine step_append_lies _ iC _ _ _ iC (b+1) 2 i0 _ 1 8 Tryz.underlying94 hi0 hz0 hz1 hz2 rfl bQ (.slice og M.out.length jM) M.out.length (M.out.map (Value.int .i64)) iC ((hO1.out.alloc _).drew) ⟨wd.heap.size,0,none⟩ 1 1 [aU xn] iC iC (World.news_of_block (cs:=#[aU xn]) (t:=2) (fr:=(0,0)) (heap_alloc_new wd _)) aaK bQ JF bQ eU (wd.heap.size+1) dY ?_;intro gg cap w1 hown1 hgrow hat hlt1;have q0:w1.cell? ⟨b,107,none⟩=some (.slice og M.out.length jM):=aBN;have _q2:w1.cell? ⟨w.heap.size,1,none⟩=some (aU xn):=aBO;have K2:=(Img.drew (Img.alloc hK1.out _)).of_block (hgrow.block b eU NB.out);have Yo:=bW K2;clear K2;have HB2:=bW (Below.grown (((hB1.out.below bQ).alloc bQ _).drew) hgrow eU (fun g hg=>by have:=(anv.out g hg).1;omega));have HO2:=bW hown1;clear hown1;have q1:w1.frozen? ⟨b,107,none⟩=false:=aBK)))
    all_goals
     go_wp2_with fail;go_ret
     refine⟨rfl,⟨.slice (some ⟨gg,0,none⟩) (M.out.length+1) cap,?_,?_⟩,?_⟩
     ·try simp only[dB hl]
      unfold Val.num;with_reducible exact Yo.out.aOj _ (M.out++[xn])
     ·try simp only[dB hl]
      try rw[show(M.out++[xn]).length=M.out.length+1 by simp]
      try rw[List.map_append]
      with_reducible exact ownsRow_setCell_below HO2.out dY _
     ·with_reducible exact HB2.out.setCell (Nat.le_refl _) _
   ·have l1:¬(M.out.length:Int)<50:=bQ;go_wp2_with fail;go_ret
    refine⟨rfl,⟨.slice og M.out.length jM,?_,?_⟩,?_⟩
    ·try simp only[dw hl]
     unfold Val.num;with_reducible exact OQ.out
    ·try simp only[dw hl]
     with_reducible exact HO0.out
    ·with_reducible exact HB0.out.below bQ
theorem wu.ge{w:World}{b:Nat}{code:Value}{told:Nat→Int}{time:Int}{M:dM}(h:wu w b code told time M):b<w.heap.size:=by
 obtain⟨out,hI,-⟩:=h;exact hI.lt bQ
theorem wu.but{w w':World}{b:Nat}{code:Value}{told:Nat→Int}{time:Int}{M M':dM}{out:Value}(hO:w.ownsRow (b+1) 2 1 out M.out.length (M.out.map (Value.int .i64)))(hB:But b w w')(hI:Img w' b 108 (mM code told time out M'))(ho:M'.out=M.out):wu w' b code told time M':=by
 exact awi
theorem wu.later{w w':World}{b:Nat}{code:Value}{told:Nat→Int}{time:Int}{M:dM}(h:wu w b code told time M)(hb:Below w.heap.size w w'):wu w' b code told time M:=by
 obtain⟨out,hI,hO⟩:=h;exact wu.but hO (But.of hb) (hI.later hb (hI.lt bQ)) rfl
theorem aOx(b:Nat)(code:Value)(told:Nat→Int)(time:Int)(out:Value)(M:dM)(w:World)(hI:Img w b 108 (mM code told time out M))(v:Val)(hv:oJ v)(o:Int) :
  Calls Tryz.prog 81 #[.pointer (some ⟨b,0,none⟩),.agg #[aU v.kind,aU v.n,aU v.cell],aU o] w fun e w' =>
   e=.returned (.tuple #[.agg #[aU (M.load told v o).1.kind,aU (M.load told v o).1.n,aU (M.load told v o).1.cell],aU (M.load told v o).2])∧Below w.heap.size w w':=by
 obtain⟨⟨k,er⟩,hke⟩:∃ x,P.far v o=x:=⟨_,rfl⟩;by_cases he:er=0
 ·subst he;have h0:(P.far v o).2=0:=by rw[hke]
  obtain⟨k0,k1⟩:=arA h0;have hr:=arB h0 ⟨k0,k1⟩;obtain⟨kind,n,cell⟩:=v;obtain⟨hk,hc⟩:=hv;simp only at hk hc k0 k1 hr;have hk2:kind=2∨kind=3∨kind=4:=bQ;rw[hke]at hr;rcases hk2 with rfl|rfl|rfl
  ·simp only[low,high]at hr;obtain⟨q,rfl⟩:=Int.eq_ofNat_of_zero_le (show 0≤k by simp at hr;omega);have e:M.load told ⟨2,n,cell⟩ o=(.num (told q),0):=by unfold dM.load;rw[hke];simp
   rw[e];exact aOn b code told time out M w hI n cell o q ZC hke
  ·simp only[low,high]at hr;obtain⟨q,hq⟩:=Int.eq_ofNat_of_zero_le (show 0≤k+16 by simp at hr;omega);obtain rfl:k=(q:Int)-16:=bQ;have e:M.load told ⟨3,n,cell⟩ o=(if(M.slots q).kind=0 then(.none,8)else(M.slots q,0)):=by unfold dM.load;rw[hke];simp
   rw[e];have:=aOp b code told time out M w hI n o cell q ZC hke;by_cases hz:(M.slots q).kind=0
   ·simpa[hz,Val.none]using this
   ·simpa[hz]using this
  ·simp only[low,high]at hr;obtain⟨q,rfl⟩:=Int.eq_ofNat_of_zero_le (show 0≤k by simp at hr;omega);have hcc:=hc rfl;obtain⟨cc,rfl⟩:=Int.eq_ofNat_of_zero_le hcc.1;have e:M.load told ⟨4,n,cc⟩ o=(.num (M.cells (cc*4+q)),0):=by
    unfold dM.load;rw[hke];simp;rw[show((cc:Int)*4+(q:Int)).toNat=cc*4+q by omega]
   rw[e];exact aOo b code told time out M w hI n o cc q bQ ZC hke
 ·have e:M.load told v o=(.none,er):=by unfold dM.load;rw[hke];simp[he]
  rw[e];exact aOm b told M w v hv o k er hke he
theorem aOy(b:Nat)(code:Value)(told:Nat→Int)(time:Int)(M:dM)(w:World)(hM:wu w b code told time M)(v:Val)(hv:oJ v)(o:Int)(x:Val)(hx:oJ x) :
  Calls Tryz.prog 82 #[.pointer (some ⟨b,0,none⟩),.agg #[aU v.kind,aU v.n,aU v.cell],aU o,.agg #[aU x.kind,aU x.n,aU x.cell]] w fun e w' =>
   e=.returned (aU (M.store v o x).2)∧wu w' b code told time (M.store v o x).1∧Below b w w':=by
 have hlt:=hM.ge;have hM0:=hM;obtain⟨out,hI,hO⟩:=hM;obtain⟨⟨k,er⟩,hke⟩:∃ x,P.far v o=x:=⟨_,rfl⟩;by_cases hs:(er≠0∧(M.store v o x)=(M,er))∨(er=0∧v.kind=2∧(M.store v o x)=(M,6))∨(er=0∧v.kind≠2∧x.kind=0∧(M.store v o x)=(M,8))∨(er=0∧v.kind≠2∧x.kind≠0∧v.kind≠3∧x.kind≠1∧(M.store v o x)=(M,1))
 ·obtain⟨r,hr,hc⟩:∃ r,M.store v o x=(M,r)∧((er≠0∧r=er)∨(er=0∧v.kind=2∧r=6)∨(er=0∧v.kind≠2∧x.kind=0∧r=8)∨(er=0∧v.kind≠2∧x.kind≠0∧v.kind≠3∧x.kind≠1∧r=1)):=by
   rcases hs with ⟨h1,h⟩|⟨h1,h2,h⟩|⟨h1,h2,h3,h⟩|⟨h1,h2,h3,h4,h5,h⟩
   ·exact⟨_,h,.inl ⟨h1,rfl⟩⟩
   ·exact⟨_,h,.inr (.inl ⟨h1,h2,rfl⟩)⟩
   ·exact⟨_,h,.inr (.inr (.inl ⟨h1,h2,h3,rfl⟩))⟩
   ·exact⟨_,h,.inr (.inr (.inr ⟨h1,h2,h3,h4,h5,rfl⟩))⟩
  rw[hr];exact(aOq b w v x hv o k er r hke hc).mono fun e w' ⟨he,hb⟩=>⟨he,hM0.later hb,hb.mono (Nat.le_of_lt hlt)⟩
 ·have st:M.store v o x=if er≠0 then(M,er)else if v.kind=2 then(M,6)else if x.kind=0 then(M,8)else if v.kind=3 then({ M with slots:=upd M.slots (k+16).toNat x},0)else if x.kind≠1 then(M,1)else({ M with cells:=upd M.cells (v.cell*4+k).toNat x.n},0):=by
   unfold dM.store;rw[hke]
  rw[st]at hs ⊢;by_cases he:er=0
  rotate_left
  ·exact absurd (.inl ⟨he,by rw[dB he]⟩) hs
  subst he;rw[dw dY]at hs ⊢;by_cases h2:v.kind=2
  ·exact absurd (.inr (.inl ⟨rfl,h2,by rw[dB h2]⟩)) hs
  rw[dw h2]at hs ⊢;by_cases h3:x.kind=0
  ·exact absurd (.inr (.inr (.inl ⟨rfl,h2,h3,by rw[dB h3]⟩))) hs
  rw[dw h3]at hs ⊢;have h0:(P.far v o).2=0:=by rw[hke]
  obtain⟨k0,k1⟩:=arA h0;have hr:=arB h0 ⟨k0,k1⟩;rw[hke]at hr;by_cases h4:v.kind=3
  ·rw[dB h4];obtain⟨kind,n,cell⟩:=v;simp only at h4;subst h4;simp only[low,high]at hr;obtain⟨q,hq⟩:=Int.eq_ofNat_of_zero_le (show 0≤k+16 by simp at hr;omega);obtain rfl:k=(q:Int)-16:=bQ;rw[show((q:Int)-16+16).toNat=q by omega];exact(aOr b code told time out M w hI n o cell x h3 q ZC hke).mono fun e w' ⟨he,hi,hb⟩=>⟨he,wu.but hO hb hi rfl,hb.below (Nat.le_of_lt hlt)⟩
  rw[dw h4]at hs ⊢;by_cases h5:x.kind=1
  rotate_left
  ·exact absurd (.inr (.inr (.inr ⟨rfl,h2,h3,h4,h5,by rw[dB h5]⟩))) hs
  rw[dw (by simp[h5])];obtain⟨kind,n,cell⟩:=v;obtain⟨xk,xn,xc⟩:=x;obtain⟨hk,hc⟩:=hv;simp only at hk hc k0 k1 hr h2 h4 h5;obtain rfl:kind=4:=bQ;subst h5;simp only[low,high]at hr;obtain⟨q,rfl⟩:=Int.eq_ofNat_of_zero_le (show 0≤k by simp at hr;omega);have hcc:=hc rfl;obtain⟨cc,rfl⟩:=Int.eq_ofNat_of_zero_le hcc.1;simp only;rw[show((cc:Int)*4+(q:Int)).toNat=cc*4+q by omega];exact(aOs b code told time out M w hI n o xn xc cc q bQ ZC hke).mono fun e w' ⟨he,hi,hb⟩=>⟨he,wu.but hO hb hi rfl,hb.below (Nat.le_of_lt hlt)⟩
theorem aOz(b:Nat)(code:Value)(told:Nat→Int)(time:Int)(M:dM)(w:World)(hM:wu w b code told time M)(n:Int)(hn:n=1∨n=2∨n=3) :
  Calls Tryz.prog 84 #[.pointer (some ⟨b,0,none⟩),aU n] w fun e w'=>e=.returned (aU (M.call time n).2)∧wu w' b code told time (M.call time n).1∧Below b w w':=by
 have hlt:=hM.ge;have hM0:=hM;obtain⟨out,hI,hO⟩:=hM;by_cases h:n≠2∧(M.regs 1).kind≠1
 ·have e:M.call time n=(M,if(M.regs 1).kind=0 then 8 else 1):=by
   exact awj
  rw[e];exact(aOt b code told time out M w hI n h.1 (M.regs 1) rfl h.2).mono fun e w' ⟨he,hb⟩=>⟨he,hM0.later hb,hb.mono (Nat.le_of_lt hlt)⟩
 ·refine awk ?_;intro e0 eo;have h1:n≠2→M.regs 1=⟨1,(M.regs 1).n,(M.regs 1).cell⟩:=fun h2=>by
   have:(M.regs 1).kind=1:=bQ;rw[←this]
  rcases hn with rfl|rfl|rfl
  ·exact(aOu b code told time out M w hI _ _ (h1 dS)).mono fun e w' ⟨he,hi,hb⟩=>⟨he,wu.but hO hb hi (eo dS),hb.below (Nat.le_of_lt hlt)⟩
  ·exact(aOv b code told time out M w hI _ _ _ rfl).mono fun e w' ⟨he,hi,hb⟩=>⟨he,wu.but hO hb hi (eo dS),hb.below (Nat.le_of_lt hlt)⟩
  ·exact(aOw b code told time out M w hI hO _ _ (h1 dS)).mono fun e w' ⟨he,hi,hb⟩=>⟨he,hi,hb⟩
theorem awg(b:Nat)(code:Value)(told:Nat→Int)(time:Int)(out:Value)(M:dM)(w:World)(hI:Img w b 108 (mM code told time out M))(c d s:Int)(r:Bool)(o n:Int)(hs:0≤s∧s<11) :
  Calls Tryz.prog 83 #[.pointer (some ⟨b,0,none⟩),.agg #[aU c,aU d,aU s,.bool r,aU o,aU n]] w fun e w' =>
   e=.returned (.agg #[aU (M.second ⟨c,d,s,r,o,n⟩).kind,aU (M.second ⟨c,d,s,r,o,n⟩).n,aU (M.second ⟨c,d,s,r,o,n⟩).cell])∧Below w.heap.size w w':=by
 cases r
 ·exact aOl _ w c d s o n
 ·obtain⟨k,rfl⟩:=Int.eq_ofNat_of_zero_le hs.1;have:=aOk b code told time out M w hI c d k bQ o n;simpa[dM.second]using this
attribute [local go_sem ↓] Go.wp_at_zero Go.wp_at_succ
theorem aOA(b:Nat)(code:Value)(told:Nat→Int)(time:Int)(out:Value)(M:dM)(w:World)(hI:Img w b 108 (mM code told time out M))(c s:Int)(d:Nat)(r:Bool)(o n:Int)(hd:d<11)(hs:0≤s∧s<11)
  (a x:Val) (ha:M.regs d=a) (hx:M.second ⟨c,d,s,r,o,n⟩=x) :
  Calls Tryz.prog 80 #[.pointer (some ⟨b,0,none⟩),.agg #[aU c,aU d,aU s,.bool r,aU o,aU n]] w fun e w' =>
   e=.returned (.tuple #[.bool (M.asks ⟨c,d,s,r,o,n⟩).1,aU (M.asks ⟨c,d,s,r,o,n⟩).2])∧Below w.heap.size w w':=by
 refine KE ?_;intro HW0 hlt;have hS:∀ w',Img w' b 108 (mM code told time out M)→Calls Tryz.prog 83 #[.pointer (some ⟨b,0,none⟩),.agg #[aU c,aU d,aU s,.bool r,aU o,aU n]] w' fun e w'' =>
   e=.returned (.agg #[aU x.kind,aU x.n,aU x.cell])∧Below w'.heap.size w' w'':=fun w' h=>by
  have:=awg b code told time out M w' h c d s r o n hs;rw[hx]at this;exact this
 have HS:=bW hS;clear hS;have d7:(d:Int)<11:=bQ;have c0:=(hI.cell (1+d*3) bQ).trans (congrArg some ((Ih hd (bQ:0<3) bQ).trans (aeT _)));have c1:=(hI.cell (1+d*3+1) bQ).trans (congrArg some ((Ih hd (bQ:1<3) bQ).trans (ajF _)));have c2:=(hI.cell (1+d*3+2) bQ).trans (congrArg some ((Ih hd (bQ:2<3) bQ).trans (ajH _)));rw[ha]at c0 c1 c2;have HI:=bW hI;have HX:=bW hx;have HA:=bW ha;clear hI hx ha;go_enter Tryz.func80,Tryz.ntmps80;go_wp2_with fail;generalize hW:World.alloc w _=wd;have I1:Img wd b 108 (mM code told time out M):=hW▸HI.out.alloc _;have h1:w.heap.size<wd.heap.size:=OC;have HW1:Hid (Below w.heap.size w wd):=bW (hW▸(Below.refl w.heap.size w).alloc (Nat.le_refl _) _);have e0:wd.cell? ⟨w.heap.size,0,none⟩=some (aU c):=qY;have e1:wd.cell? ⟨w.heap.size,1,none⟩=some (aU d):=qY;have e2:wd.cell? ⟨w.heap.size,2,none⟩=some (aU s):=qY;have e3:wd.cell? ⟨w.heap.size,3,none⟩=some (.bool r):=qY;have e4:wd.cell? ⟨w.heap.size,4,none⟩=some (aU o):=qY;have e5:wd.cell? ⟨w.heap.size,5,none⟩=some (aU n):=qY;clear hW;replace c0:=(I1.cell (1+d*3) bQ).trans (congrArg some ((Ih hd (bQ:0<3) bQ).trans (aeT _)));replace c1:=(I1.cell (1+d*3+1) bQ).trans (congrArg some ((Ih hd (bQ:1<3) bQ).trans (ajF _)));replace c2:=(I1.cell (1+d*3+2) bQ).trans (congrArg some ((Ih hd (bQ:2<3) bQ).trans (ajH _)));rw[HA.out]at c0 c1 c2
 have k0:=cell_regrown c0;have k1:=cell_regrown c1;have k2:=cell_regrown c2;have k3:=cell_regrown e0;have k4:=cell_regrown e1;have k5:=cell_regrown e2;have k6:=cell_regrown e3;have k7:=cell_regrown e4;have k8:=cell_regrown e5;have HI1:=bW I1;clear I1;have zb:b<wd.heap.size:=bQ;clear k0 k1 k2 k3 k4 k5 k6 k7 k8;have aP5:¬b=wd.heap.size:=bQ;have aP6:¬b=wd.heap.size+1:=bQ;have aP7:¬w.heap.size=wd.heap.size:=bQ;have aP8:¬w.heap.size=wd.heap.size+1:=bQ;have aP9:¬wd.heap.size=b:=bQ;have aQa:¬wd.heap.size+1=b:=bQ;have aQb:¬wd.heap.size=w.heap.size:=bQ;have aQc:¬wd.heap.size+1=w.heap.size:=bQ;go_cut [6,7] (fun u6 u7 wr=>∃ p q:Nat,u6=.pointer (some ⟨p,0,none⟩)∧u7=.pointer (some ⟨q,0,none⟩)∧wr.cell? ⟨p,0,none⟩=some (aU a.kind)∧wr.cell? ⟨p,1,none⟩=some (aU a.n)∧wr.cell? ⟨q,0,none⟩=some (aU x.kind)∧wr.cell? ⟨q,1,none⟩=some (aU x.n) ∧
  wr.cell? ⟨w.heap.size,0,none⟩=some (aU c)∧wr.cell? ⟨w.heap.size,3,none⟩=some (.bool r)∧wr.cell? ⟨w.heap.size,5,none⟩=some (aU n)∧Below w.heap.size w wr)
 case first =>
  go_region_held3 (fun w'=>w'.cell? ⟨b,1+d*3,none⟩=some (aU a.kind)∧w'.cell? ⟨b,1+d*3+1,none⟩=some (aU a.n)∧w'.cell? ⟨b,1+d*3+2,none⟩=some (aU a.cell)∧w'.cell? ⟨w.heap.size,0,none⟩=some (aU c)∧w'.cell? ⟨w.heap.size,1,none⟩=some (aU d)∧w'.cell? ⟨w.heap.size,2,none⟩=some (aU s)∧w'.cell? ⟨w.heap.size,3,none⟩=some (.bool r)∧w'.cell? ⟨w.heap.size,4,none⟩=some (aU o)∧w'.cell? ⟨w.heap.size,5,none⟩=some (aU n)) (first|go_keep|(go_split_ands;exact⟨by first|assumption|(rw[hb.cell fD];first|assumption|go_keep)|(simp[go_sem, *];done),by first|assumption|(rw[hb.cell fD];first|assumption|go_keep)|(simp[go_sem, *];done),by first|assumption|(rw[hb.cell fD];first|assumption|go_keep)|(simp[go_sem, *];done),by first|assumption|(rw[hb.cell fD];first|assumption|go_keep)|(simp[go_sem, *];done),by first|assumption|(rw[hb.cell fD];first|assumption|go_keep)|(simp[go_sem, *];done),by first|assumption|(rw[hb.cell fD];first|assumption|go_keep)|(simp[go_sem, *];done),by first|assumption|(rw[hb.cell fD];first|assumption|go_keep)|(simp[go_sem, *];done),by first|assumption|(rw[hb.cell fD];first|assumption|go_keep)|(simp[go_sem, *];done),by first|assumption|(rw[hb.cell fD];first|assumption|go_keep)|(simp[go_sem, *];done)⟩))
   (first|(go_at_call 83;refine(HS.out _ ?_).mono ?_;(first|exact HI1.out.drew|exact(HI1.out.alloc _).drew|exact((HI1.out.alloc _).alloc _).drew|exact HI1.out|exact(HI1.out.alloc _)|exact((HI1.out.alloc _).alloc _));rintro e w1 ⟨rfl,hb⟩;obtain⟨hc1,hf1⟩:=jd hb;have z1:=hb.size;(try simp at z1);have aQd:¬b=w1.heap.size:=bQ;have aQe:¬b=w1.heap.size+1:=bQ;have aQf:¬w.heap.size=w1.heap.size:=bQ;have aQg:¬w.heap.size=w1.heap.size+1:=bQ;have aQh:¬w1.heap.size=b:=bQ;have aQi:¬w1.heap.size+1=b:=bQ;have aQj:¬w1.heap.size=w.heap.size:=bQ;have aQk:¬w1.heap.size+1=w.heap.size:=bQ;(try (have zz0:wd.heap.size<w1.heap.size:=bQ;have p00:w1.cell? ⟨wd.heap.size,0,none⟩=some (aU 0):=akm;have q00:w1.frozen? ⟨wd.heap.size,0,none⟩=false:=akr;have p01:w1.cell? ⟨wd.heap.size,1,none⟩=some (aU 0):=akm;have q01:w1.frozen? ⟨wd.heap.size,1,none⟩=false:=akr;have p02:w1.cell? ⟨wd.heap.size,2,none⟩=some (aU 0):=akm;have q02:w1.frozen? ⟨wd.heap.size,2,none⟩=false:=akr));(try (have zz1:wd.heap.size+1<w1.heap.size:=bQ;have p10:w1.cell? ⟨wd.heap.size+1,0,none⟩=some (aU 0):=akm;have q10:w1.frozen? ⟨wd.heap.size+1,0,none⟩=false:=akr;have p11:w1.cell? ⟨wd.heap.size+1,1,none⟩=some (aU 0):=akm;have q11:w1.frozen? ⟨wd.heap.size+1,1,none⟩=false:=akr;have p12:w1.cell? ⟨wd.heap.size+1,2,none⟩=some (aU 0):=akm;have q12:w1.frozen? ⟨wd.heap.size+1,2,none⟩=false:=akr));have y0:w1.cell? ⟨b,1+d*3,none⟩=some (aU a.kind):=(hb.cell (p:=⟨b,1+d*3,none⟩) fD).trans (by first|exact c0|(simp[go_sem,c0,zb];done));have y1:w1.cell? ⟨b,1+d*3+1,none⟩=some (aU a.n):=(hb.cell (p:=⟨b,1+d*3+1,none⟩) fD).trans (by first|exact c1|(simp[go_sem,c1,zb];done));have y2:w1.cell? ⟨b,1+d*3+2,none⟩=some (aU a.cell):=(hb.cell (p:=⟨b,1+d*3+2,none⟩) fD).trans (by first|exact c2|(simp[go_sem,c2,zb];done));have x0:w1.cell? ⟨w.heap.size,0,none⟩=some (aU c):=(hb.cell (p:=⟨w.heap.size,0,none⟩) fD).trans (by first|exact e0|(simp[go_sem,e0,h1];done));have x1:w1.cell? ⟨w.heap.size,1,none⟩=some (aU d):=(hb.cell (p:=⟨w.heap.size,1,none⟩) fD).trans (by first|exact e1|(simp[go_sem,e1,h1];done));have x2:w1.cell? ⟨w.heap.size,2,none⟩=some (aU s):=(hb.cell (p:=⟨w.heap.size,2,none⟩) fD).trans (by first|exact e2|(simp[go_sem,e2,h1];done));have x3:w1.cell? ⟨w.heap.size,3,none⟩=some (.bool r):=(hb.cell (p:=⟨w.heap.size,3,none⟩) fD).trans (by first|exact e3|(simp[go_sem,e3,h1];done));have x4:w1.cell? ⟨w.heap.size,4,none⟩=some (aU o):=(hb.cell (p:=⟨w.heap.size,4,none⟩) fD).trans (by first|exact e4|(simp[go_sem,e4,h1];done));have x5:w1.cell? ⟨w.heap.size,5,none⟩=some (aU n):=(hb.cell (p:=⟨w.heap.size,5,none⟩) fD).trans (by first|exact e5|(simp[go_sem,e5,h1];done));(try have z10:wd.heap.size<w1.heap.size:=bQ);(try have z11:wd.heap.size+1<w1.heap.size:=bQ);have z12:b<w1.heap.size:=bQ;have z13:w.heap.size<w1.heap.size:=bQ;clear hc1 hf1))
  all_goals
   go_wp2_with fail;go_meet
   (first
    |(refine⟨w1.heap.size,w1.heap.size+1,?_,?_,?_,?_,?_,?_,?_,?_,?_,?_⟩;with_reducible rfl;with_reducible rfl)
    |(refine⟨w1.heap.size+1,w1.heap.size,?_,?_,?_,?_,?_,?_,?_,?_,?_,?_⟩;with_reducible rfl;with_reducible rfl)
    |(refine⟨wd.heap.size,w1.heap.size,?_,?_,?_,?_,?_,?_,?_,?_,?_,?_⟩;with_reducible rfl;with_reducible rfl)
    |(refine⟨w1.heap.size,wd.heap.size,?_,?_,?_,?_,?_,?_,?_,?_,?_,?_⟩;with_reducible rfl;with_reducible rfl)
    |(refine⟨wd.heap.size,wd.heap.size+1,?_,?_,?_,?_,?_,?_,?_,?_,?_,?_⟩;with_reducible rfl;with_reducible rfl)
    |(refine⟨wd.heap.size+1,wd.heap.size,?_,?_,?_,?_,?_,?_,?_,?_,?_,?_⟩;with_reducible rfl;with_reducible rfl))
  all_goals (first|(with_reducible refine Below.mono ?_ (Nat.le_refl _);go_light;repeat' (first|with_reducible exact HW1.out|with_reducible refine Below.drew ?_|with_reducible refine Below.alloc ?_ ?_ _|with_reducible refine Below.setCell ?_ ?_ _|with_reducible refine Below.trans ?_ (hb.mono ?_)|(simp;done)|(simp;omega)|omega))|(go_light;simp[go_sem, *];done))
 case rest =>
  obtain⟨p,q,rfl,rfl,a0,a1,b0,b1,f0,f3,f5,HBc⟩:=hcut;have HWc:=bW HBc;clear HBc;have ea:(M.regs (d:Int).toNat)=a:=by rw[Int.toNat_natCast];exact HA.out
  have eA:M.asks ⟨c,d,s,r,o,n⟩=if a.kind=0∨x.kind=0 then(false,8)else if a.kind=1∧x.kind=1 then(is c a.n x.n,0)else if r=true∨n≠0∨(c≠15∧c≠16)then(false,1)else(decide (c=16),0):=by
   unfold dM.asks;simp only[ea,HX.out]
  have hfin:∀ (P:Bool × Int),M.asks ⟨c,d,s,r,o,n⟩=P→∀ {e:Ending} {w':World},e=.returned (.tuple #[.bool P.1,aU P.2])∧Below w.heap.size w w'→e=.returned (.tuple #[.bool (M.asks ⟨c,d,s,r,o,n⟩).1,aU (M.asks ⟨c,d,s,r,o,n⟩).2])∧Below w.heap.size w w':=fun P h=>by rw[h];exact fun h=>h
  have HF:=bW hfin;have HE:=bW eA;clear eA ea hfin;by_cases k1:a.kind=0
  ·have q1:(a.kind==0)=true:=by rw[beq_iff_eq];exact k1
   rw[dB (.inl k1)]at HE;clear k1;go_wp2_with fail;exact awe
  have q1:(a.kind==0)=false:=by rw[beq_eq_false_iff_ne];exact k1
  by_cases k2:x.kind=0
  ·have q2:(x.kind==0)=true:=by rw[beq_iff_eq];exact k2
   rw[dB (.inr k2)]at HE;clear k1 k2;go_wp2_with fail;exact awe
  have q2:(x.kind==0)=false:=by rw[beq_eq_false_iff_ne];exact k2
  rw[dw (by simp[k1,k2])]at HE;by_cases k3:a.kind=1∧x.kind=1
  ·have q3:(a.kind==1)=true:=by rw[beq_iff_eq];exact k3.1
   have q4:(x.kind==1)=true:=by rw[beq_iff_eq];exact k3.2
   rw[dB k3]at HE;clear k1 k2 k3;go_wp2_with (go_at_call 118;refine(aFz _ _ _ _).mono ?_;rintro e w' ⟨rfl,rfl⟩);exact awe
  rw[dw k3]at HE;have hk:(a.kind==1)=false∨((a.kind==1)=true∧(x.kind==1)=false):=by
   rw[beq_eq_false_iff_ne,beq_eq_false_iff_ne,beq_iff_eq];omega
  clear k1 k2 k3;have hv:(r=true∧M.asks ⟨c,d,s,r,o,n⟩=(false,1))∨(r=false∧(n==0)=false∧M.asks ⟨c,d,s,r,o,n⟩=(false,1)) ∨
    (r=false∧n=0∧(c==15)=false∧(c==16)=false∧M.asks ⟨c,d,s,r,o,n⟩=(false,1))∨(r=false∧n=0∧c=15∧M.asks ⟨c,d,s,r,o,n⟩=(false,0))∨(r=false∧n=0∧c=16∧M.asks ⟨c,d,s,r,o,n⟩=(true,0)):=by
   rw[HE.out];cases r
   ·by_cases h0:n=0
    ·by_cases h5:c=15
     ·simp[h0,h5]
     ·by_cases h6:c=16
      ·simp[h0,h6]
      ·simp[h0,h5,h6]
    ·simp[h0]
   ·simp
  clear HE;rcases hv with ⟨rfl,hv⟩|⟨rfl,n0,hv⟩|⟨rfl,rfl,c15,c16,hv⟩|⟨rfl,rfl,rfl,hv⟩|⟨rfl,rfl,rfl,hv⟩<;>rcases hk with q3|⟨q3,q4⟩
  all_goals
   have HV:=bW hv;clear hv
   (try (have d0:(n !=0)=true:=by rw[bne_iff_ne];exact beq_eq_false_iff_ne.1 n0))
   (try (have d15:(c !=15)=true:=by rw[bne_iff_ne];exact beq_eq_false_iff_ne.1 c15))
   (try (have d16:(c !=16)=true:=by rw[bne_iff_ne];exact beq_eq_false_iff_ne.1 c16))
   go_wp2_with fail;go_ret2
   exact HF.out _ HV.out ⟨rfl,HWc.out⟩
end Go.Proofs.YtglilddlhibogaaGreatDoor.W
namespace Go.Proofs.YtglilddlhibogaaGreatDoor.W
open Go.RowKit
theorem aOB(n c0 c1 c2 c3 c4 c5 c6 c7 c8 c9 c10 c11 c12 c13 c14 c15 st:Int)(og:Option Addr)(len cap:Nat):Tryz.prog.built 144 [(0,aU n),(1,.agg #[aU c0,aU c1,aU c2,aU c3,aU c4,aU c5,aU c6,aU c7,aU c8,aU c9,aU c10,aU c11,aU c12,aU c13,aU c14,aU c15]),(2,.slice og len cap),(3,aU st)]=some #[aU n,aU c0,aU c1,aU c2,aU c3,aU c4,aU c5,aU c6,aU c7,aU c8,aU c9,aU c10,aU c11,aU c12,aU c13,aU c14,aU c15,.slice og len cap,aU st]:=by
 kernel_rfl
theorem aqC:(Tryz.prog.info? 144).map (·.size)=some 19:=dF
theorem agH:(Tryz.prog.info? 147).map (·.size)=some 19:=dF
theorem awR(n c0 c1 c2 c3 c4 c5 c6 c7 c8 c9 c10 c11 c12 c13 c14 c15 st:Int)(og:Option Addr)(len cap:Nat):(#[aU n,aU c0,aU c1,aU c2,aU c3,aU c4,aU c5,aU c6,aU c7,aU c8,aU c9,aU c10,aU c11,aU c12,aU c13,aU c14,aU c15,.slice og len cap,aU st]:Array Value).all (·.oneCell')=true:=dF
theorem aFL:(Tryz.prog.info? 147).map (·.size)=some (Array.size (#[aU 0,aU 0,aU 0,aU 0,aU 0,aU 0,aU 0,aU 0,aU 0,aU 0,aU 0,aU 0,aU 0,aU 0,aU 0,aU 0,aU 0,.slice none 0 0,aU 0]:Array Value)):=dF
theorem aCi:(Tryz.prog.info? 144).map (·.size)=some (Array.size (#[aU 0,aU 0,aU 0,aU 0,aU 0,aU 0,aU 0,aU 0,aU 0,aU 0,aU 0,aU 0,aU 0,aU 0,aU 0,aU 0,aU 0,.slice none 0 0,aU 0]:Array Value)):=dF
theorem aII:Tryz.prog.built 144 []=some #[aU 0,aU 0,aU 0,aU 0,aU 0,aU 0,aU 0,aU 0,aU 0,aU 0,aU 0,aU 0,aU 0,aU 0,aU 0,aU 0,aU 0,.slice none 0 0,aU 0]:=dF
theorem awQ:Tryz.prog.built 147 []=some #[aU 0,aU 0,aU 0,aU 0,aU 0,aU 0,aU 0,aU 0,aU 0,aU 0,aU 0,aU 0,aU 0,aU 0,aU 0,aU 0,aU 0,.slice none 0 0,aU 0]:=dF
theorem aoM:(#[aU 0,aU 0,aU 0,aU 0,aU 0,aU 0,aU 0,aU 0,aU 0,aU 0,aU 0,aU 0,aU 0,aU 0,aU 0,aU 0,aU 0,.slice none 0 0,aU 0]:Array Value).all (·.oneCell')=true:=dF
open Go.Proofs.YtglilddlhibogaaGreatDoor.P in
theorem arY{b:Nat}:∀ (vs:List Value) (o:Nat) (w x:World),But b x w→But b x (w.setCells b o vs)
 |[],_,_,_,h=>h
 |v::r,o,w,x,h=>by rw[World.setCells];exact arY r (o+1) _ _ (h.setCell (.inl rfl) v)
theorem below_setCells{b B:Nat}(hB:B≤b):∀ (vs:List Value) (o:Nat) (w x:World),Below B x w→Below B x (w.setCells b o vs)
 |[],_,_,_,h=>h
 |v::r,o,w,x,h=>by rw[World.setCells];exact below_setCells hB r (o+1) _ _ (h.setCell hB v)
open Go.Proofs.YtglilddlhibogaaGreatDoor.P in
theorem asn{w:World}{B T n g:Nat}{v:Value}{xs vs:List Value}(h:w.ownsRow B T 1 v n xs)(hg:g<B):(w.setCells g 0 vs).ownsRow B T 1 v n xs :=
 h.kept (arY (b:=g) vs 0 w w (But.refl _ _)).grown (by have:=h.lt;cases hv:v.ownBlock with|none=>exact .inl rfl|some q=>(right;intro e;have:=(this q hv).1;injection e;omega))
end Go.Proofs.YtglilddlhibogaaGreatDoor.W
namespace Go.Proofs.YtglilddlhibogaaGreatDoor.W
open Go.RowKit Go.Proofs.YtglilddlhibogaaGreatDoor.P
def ajt(f:Nat→Int):Value:=.agg #[aU (f 0),aU (f 1),aU (f 2),aU (f 3),aU (f 4),aU (f 5),aU (f 6),aU (f 7)]
def aju(f:Nat→Int):Value:=.agg #[aU (f 0),aU (f 1),aU (f 2),aU (f 3),aU (f 4),aU (f 5),aU (f 6),aU (f 7),aU (f 8),aU (f 9),aU (f 10),aU (f 11),aU (f 12),aU (f 13),aU (f 14),aU (f 15)]
def adk:Nat→Value:=fun j=>if j=17 then .slice none 0 0 else aU 0
theorem rC.nil{w:World}{v:Value}{p:Int}(h:rC w v 0 p):v=.nilIface:=by
 rcases h with ⟨h,-,-⟩|⟨h,-⟩|⟨h,-⟩
 ·exact h
 ·exact absurd rfl h
 ·exact absurd rfl h
theorem Img.mk'{w:World}{b n:Nat}{c:Array Value}{t:TypeId}{I:Nat→Value}(hb:w.heap[b]?=some (.cells c t (0,0)))(e:c.toList=(List.range n).map I):Img w b n I:=by
 exact asf
def atp(w:World)(v err:Value):(Int × Int) ⊕ (dM × Int × Int)→Prop
 |.inl (e,p)=>v=.agg #[aU 0,aU 0,aU 0,aU 0,aU 0,aU 0,aU 0,aU 0,aU 0,aU 0,aU 0,aU 0,aU 0,aU 0,aU 0,aU 0,aU 0,.slice none 0 0,aU 0]∧rC w err e p∧e≠0
 |.inr (M,num,st)=>∃ out,v=.agg #[aU num,aU (M.cells 0),aU (M.cells 1),aU (M.cells 2),aU (M.cells 3),aU (M.cells 4),aU (M.cells 5),aU (M.cells 6),aU (M.cells 7),aU (M.cells 8),aU (M.cells 9),aU (M.cells 10),aU (M.cells 11),aU (M.cells 12),aU (M.cells 13),aU (M.cells 14),aU (M.cells 15),out,aU st]∧err=.nilIface∧∃ B,w.ownsRow B 2 1 out M.out.length (M.out.map (Value.int .i64))
theorem Yj{w:World}{g n:Nat}{I:Nat→Value}(h:Img w g n I):w.there g 0 n:=fun j hj=>⟨by rw[Nat.zero_add,h.cell j hj];rfl,by rw[Nat.zero_add];exact h.free j hj⟩
theorem rC.aJu{w:World}{v:Value}{n p:Int}{g:Nat}{vs:List Value}(h:rC w v n p)(hI:Img w g 19 adk):rC (w.setCells g 0 vs) v n p:=by
 rcases h with h|h|⟨hne,b,hv,h0,h1⟩
 ·exact .inl h
 ·exact .inr (.inl h)
 ·have hbg:b≠g:=by
   rintro rfl;have:=hI.cell 0 bQ;rw[h0]at this;simp[adk]at this;exact hne this
  have B:=arY (b:=g) vs 0 w w (But.refl _ _);exact .inr (.inr ⟨hne,b,hv,B.cell h0 hbg,B.cell h1 hbg⟩)
theorem rC.iface{w:World}{v:Value}{n p:Int}(h:rC w v n p)(hn:n≠0):∃ t x,v=.iface t x:=by
 exact aA0
theorem wu.gu{w:World}{b:Nat}{code:Value}{told:Nat→Int}{time:Int}{M:dM}(h:wu w b code told time M){r i0 i1 i2:Nat}(hr:r<11)(k n c:Int)(e0:i0=1+r*3)(e1:i1=1+r*3+1)(e2:i2=1+r*3+2) :
  wu (((w.setCell ⟨b,i0,none⟩ (aU k)).setCell ⟨b,i1,none⟩ (aU n)).setCell ⟨b,i2,none⟩ (aU c)) b code told time { M with regs:=upd M.regs r ⟨k,n,c⟩}:=by
 obtain⟨out,hI,hO⟩:=h;exact wu.but hO ((((But.refl b w).setCell (.inl rfl) _).setCell (.inl rfl) _).setCell (.inl rfl) _) (hI.gu hr k n c e0 e1 e2) rfl
theorem aOC{M:dM}{t:Step}(h:(M.asks t).2≠0):(M.asks t).1=false:=by
 unfold dM.asks at *;simp only at *;split at h
 ·rename_i h1;rw[dB h1]
 ·rename_i h1;rw[dw h1];split at h
  ·simp at h
  ·rename_i h2;rw[dw h2];split at h
   ·rename_i h3;rw[dB h3]
   ·simp at h
def agv(n:Nat)(told:Nat→Int)(time:Int)(b:Nat)(code:Value)(M:dM)(t:Step)(pc q:Nat)(er:Int)(M':dM)(w:World):Prop :=
 (er=0∧pc≤q∧q+1<n∧Ak M'∧wu w b code told time M'∧M.step told time t pc=.go M' ((q:Int)+1))∨(er≠0∧q=pc∧M.step told time t pc=.err er)
theorem agv.pair{n:Nat}{told:Nat→Int}{time:Int}{b:Nat}{code:Value}{M M':dM}{t:Step}{pc:Nat}{er:Int}{w:World}(hs:M.step told time t pc=if er≠0 then .err er else .go M' ((pc:Int)+1))
  (hn:pc+1<n) (hm:Ak M') (ha:wu w b code told time M'):agv n told time b code M t pc pc er M' w:=by
 by_cases he:er=0
 ·exact .inl ⟨he,Nat.le_refl _,hn,hm,ha,by rw[hs,dw aeJ]⟩
 ·exact .inr ⟨he,rfl,by rw[hs,dB he]⟩
theorem aOD{w:World}{b:Nat}{code:Value}{told:Nat→Int}{time:Int}{out:Value}{M:dM}(h:Img w b 108 (mM code told time out M)):w.rangeAt b 90 [aU (M.cells 0),aU (M.cells 1),aU (M.cells 2),aU (M.cells 3),aU (M.cells 4),aU (M.cells 5),aU (M.cells 6),aU (M.cells 7),aU (M.cells 8),aU (M.cells 9),aU (M.cells 10),aU (M.cells 11),aU (M.cells 12),aU (M.cells 13),aU (M.cells 14),aU (M.cells 15)]:=by
 intro j v hv;have e:[aU (M.cells 0),aU (M.cells 1),aU (M.cells 2),aU (M.cells 3),aU (M.cells 4),aU (M.cells 5),aU (M.cells 6),aU (M.cells 7),aU (M.cells 8),aU (M.cells 9),aU (M.cells 10),aU (M.cells 11),aU (M.cells 12),aU (M.cells 13),aU (M.cells 14),aU (M.cells 15)]=(List.range 16).map fun j=>aU (M.cells j):=rfl;rw[e]at hv;have hj:j<16:=aoG;rw[h.cell (90+j) bQ,awf (r:=j) hj rfl,←hv];simp[hj]
theorem aOE{w:World}{B T n:Nat}{v:Value}{xs:List Value}(h:w.ownsRow B T 1 v n xs):∃ og cap,v=.slice og n cap:=by
 exact aBa
theorem aOF(S:Nat→Step)(told:Nat→Int)(time:Int)(k:Nat)(M:dM)(pc st:Int):dM.run S told time (k+1) M pc st=(match M.step told time (S pc.toNat) pc with
  |.done M n=>.inr (M,n,st)
  |.err e=>.inl (e,pc)
  |.go M next=>dM.run S told time k M next (st+1)):=rfl
theorem aOG(M:dM)(told:Nat→Int)(time:Int)(d s:Nat)(r:Bool)(o nn:Int)(pc:Int):M.step told time ⟨25,d,s,r,o,nn⟩ pc =
  if(M.load told (M.regs s) o).2≠0 then .err (M.load told (M.regs s) o).2 else .go { M with regs:=upd M.regs d (M.load told (M.regs s) o).1} (pc+1):=by
 unfold dM.step;simp
theorem aOH(M:dM)(told:Nat→Int)(time:Int)(d s:Nat)(r:Bool)(o nn:Int)(pc:Int):M.step told time ⟨26,d,s,r,o,nn⟩ pc =
  if(M.store (M.regs d) o (M.second ⟨26,d,s,r,o,nn⟩)).2≠0 then .err (M.store (M.regs d) o (M.second ⟨26,d,s,r,o,nn⟩)).2 else .go (M.store (M.regs d) o (M.second ⟨26,d,s,r,o,nn⟩)).1 (pc+1):=by
 unfold dM.step;simp
theorem aOI(M:dM)(told:Nat→Int)(time:Int)(d s:Nat)(r:Bool)(o nn:Int)(pc:Int):M.step told time ⟨27,d,s,r,o,nn⟩ pc =
  if(M.call time nn).2≠0 then .err (M.call time nn).2 else .go (M.call time nn).1 (pc+1):=by
 unfold dM.step;simp
theorem aOJ(M:dM)(told:Nat→Int)(time:Int)(d s:Nat)(r:Bool)(o nn:Int)(pc:Int):M.step told time ⟨13,d,s,r,o,nn⟩ pc =
  if(qM 13 (M.regs d) ⟨1,0,0⟩).2≠0 then .err (qM 13 (M.regs d) ⟨1,0,0⟩).2 else .go { M with regs:=upd M.regs d (qM 13 (M.regs d) ⟨1,0,0⟩).1} (pc+1):=by
 unfold dM.step;simp[Val.num]
theorem aOK(M:dM)(told:Nat→Int)(time:Int)(c:Int)(hc:c≤12)(d s:Nat)(r:Bool)(o nn:Int)(pc:Int):M.step told time ⟨c,d,s,r,o,nn⟩ pc =
  if(qM c (M.regs d) (M.second ⟨c,d,s,r,o,nn⟩)).2≠0 then .err (qM c (M.regs d) (M.second ⟨c,d,s,r,o,nn⟩)).2 else .go { M with regs:=upd M.regs d (qM c (M.regs d) (M.second ⟨c,d,s,r,o,nn⟩)).1} (pc+1):=by
 unfold dM.step;refine aud ?_;simp
theorem aOL(M:dM)(told:Nat→Int)(time:Int)(c:Int)(hc:15≤c∧c≤24)(d s:Nat)(r:Bool)(o nn:Int)(pc:Int):M.step told time ⟨c,d,s,r,o,nn⟩ pc =
  if(M.asks ⟨c,d,s,r,o,nn⟩).2≠0 then .err (M.asks ⟨c,d,s,r,o,nn⟩).2 else if(M.asks ⟨c,d,s,r,o,nn⟩).1 then .go M (pc+1+o)else .go M (pc+1):=by
 unfold dM.step;exact ap0
theorem aOM(M:dM)(told:Nat→Int)(time:Int)(d s:Nat)(r:Bool)(o nn:Int)(pc:Int):M.step told time ⟨14,d,s,r,o,nn⟩ pc=.go M (pc+1+o):=by
 unfold dM.step;simp
theorem step_exit(M:dM)(told:Nat→Int)(time:Int)(d s:Nat)(r:Bool)(o nn:Int)(pc:Int):M.step told time ⟨28,d,s,r,o,nn⟩ pc =
  if(M.regs 0).kind=1 then .done M (M.regs 0).n else if(M.regs 0).kind=0 then .err 8 else .err 1:=by
 unfold dM.step;simp
theorem aH7(a:Addr)(n cap:Nat)(S:Nat→Step)(hn:1≤n)(hn2:n≤200)(hcap:n≤cap)(told cells:Nat→Int)(time:Int)(w:World)(hs:Cells w a S n)(hg:w.cell? ⟨5,0,none⟩=some (.iface 317 (.agg #[.pointer (some ⟨14,26,none⟩)])))
  (hc:from_ S n 0 n=(0,-1)) :
  Calls Tryz.prog 52 #[.slice (some a) n cap,ajt told,aju cells,aU time] w fun e w'=>(∃ v err,e=.returned (.tuple #[v,err])∧atp w' v err (dM.run S told time n (dM.init cells) 0 1))∧Below w.heap.size w w':=by
 refine fU ?_;intro HW0;unfold ajt aju;have ok:=fun j (hj:j<n)=>aoH (aoI n 0 bQ (by rw[hc]) j bQ hj);have OK:=bW ok;have HS:=bW hs;have HC:=bW hc;have HG:=bW hg;have gz:=block_lt_of_cell hg;refine awJ ?_;intro sz;clear ok hs hc hg;go_enter Tryz.func52,Tryz.ntmps52;go_wp2_with fail;refine(apu a n cap S hn hn2 hcap _ ?_ ?_).mono ?_
 ·exact HS.out.later (w':=_) ald
 ·exact(Below.cell (B:=w.heap.size) (w:=w) gI gz).trans HG.out
 rw[HC.out];rintro e w1 ⟨v,rfl,hv,hb⟩;obtain⟨hc1,hf1⟩:=jd hb;have hz1:=hb.size;simp at hz1;have HW1:=bW (show Below w.heap.size w w1 from Below.trans ald (hb.mono fD));have R1:Img w1 (w.heap.size+2) 19 adk:=Img.later (Img.mk' aug iC) hb dY;clear hb;refine aoK ?_;intro z10 z11;have z12:w.heap.size+2<w1.heap.size:=bQ;refine awL ?_;intro rQ uM uN uO yU yX ale alf alh ali alj alm alr als alu alv zX zZ Af Ah Ai Aj alx aly alz alA alB alC alD alE alF alG alH alI alJ alK alL alM alN alO alP alS alV alW alX al0 al1 al2;clear hc1 hf1;have HR1:=bW R1;clear R1;obtain rfl:v=.nilIface:=hv.nil;clear hv;go_wp2_with fail;go_region;all_goals go_wp2_with fail
 generalize hW:World.drew (World.alloc w1 _)=w2;have I2:Img w2 w1.heap.size 108 (mM (.slice (some a) n cap) told time (.slice none 0 0) (dM.init cells)):=by
  rw[←hW];exact Img.drew (Img.mk' (heap_alloc_new w1 _) dF)
 have HB2:=bW (show Below w.heap.size w w2 from hW▸(HW1.out.alloc bQ _).drew);have HR2:=bW (show Img w2 (w.heap.size+2) 19 adk from hW▸(HR1.out.alloc _).drew);have zz:w1.heap.size<w2.heap.size:=OC;have Fz:Hid (wu w2 w1.heap.size (.slice (some a) n cap) told time (dM.init cells)):=⟨.slice none 0 0,I2,⟨rfl,.inl ⟨rfl,rfl⟩⟩⟩;clear hW I2;have zb:=z12;clear HR1 HW1 z10 z11 z12 hz1;clear rQ uM uN uO yU yX ale alf alh ali alj alm alr als alu alv zX zZ Af Ah Ai Aj alx aly alz alA alB alC alD alE alF alG alH alI alJ alK alL alM alN alO alP alS alV alW alX al0 al1 al2;generalize w1.heap.size=b at *
 go_loopw [12,13] (fun p s wr=>∃ (pc st f:Nat) (M:dM),p=aU pc∧s=aU st∧pc<n∧st≤pc+1∧n≤pc+f∧Ak M∧dM.run S told time n (dM.init cells) 0 1=dM.run S told time f M pc st∧wu wr b (.slice (some a) n cap) told time M∧Img wr (w.heap.size+2) 19 adk∧Below w.heap.size w wr) (fun p _ _=>n-(intOf p).toNat)
 case atStart=>exact⟨0,1,n,dM.init cells,rfl,rfl,by omega,by omega,by omega,Ak.init cells,rfl,Fz.out,HR2.out,HB2.out⟩
 case round =>
  obtain⟨pc,st,f,M,rfl,rfl,hpc,hst,hf,hM,hrun,aES,hR,hB⟩:=hrel;obtain⟨f,rfl⟩:∃ g,f=g+1:=⟨f-1,by omega⟩;obtain⟨e0,e1,e2,e3,e4,e5⟩:=HS.out.later hB pc hpc;have hok:=OK.out pc hpc;rw[aOF,Int.toNat_natCast]at hrun;generalize S pc=t at *;obtain⟨c,d,s,r,o,nn⟩:=t;obtain⟨h1,h2,h3⟩:=hok;obtain⟨g1,g2,g3,g4⟩:=aeh h1;simp only[Step.leads]at g1 g2 g3 g4 h2 h3 e0 e1 e2 e3 e4 e5;have wV:=bW hrun;have HB:=bW hB;have HR:=bW hR;have aET:=bW aES;have Hl:=bW hM;have HL:=bW h2;have HN:=bW g4;have HX:=bW h3;have zr:w.heap.size≤wr.heap.size:=hB.size;clear h1 h2 h3 g4 hrun hM aES hR hB;have pc1:(pc:Int)<n:=bQ;have pc0:(0:Int)≤pc:=bQ;obtain⟨d,rfl⟩:=Int.eq_ofNat_of_zero_le g2.1;obtain⟨s,rfl⟩:=Int.eq_ofNat_of_zero_le g2.2.2.1;have d1:(d:Int)<11:=bQ;have s1:(s:Int)<11:=bQ;have dN:d<11:=bQ;have sN:s<11:=bQ;go_upto_block 2 with fail
  generalize hW:World.alloc wr _=wd;have HB1:=bW (show Below w.heap.size w wd from hW▸HB.out.alloc bQ _);have HR1:=bW (show Img wd (w.heap.size+2) 19 adk from hW▸HR.out.alloc _);have aON:=bW (show wu wd b (.slice (some a) n cap) told time M from hW▸aET.out.later ((Below.refl _ _).alloc (Nat.le_refl _) _));have zd:wr.heap.size<wd.heap.size:=OC;have f0:wd.cell? ⟨wr.heap.size,0,none⟩=some (aU c):=qY;have f1:wd.cell? ⟨wr.heap.size,1,none⟩=some (aU d):=qY;have f2:wd.cell? ⟨wr.heap.size,2,none⟩=some (aU s):=qY;have f3:wd.cell? ⟨wr.heap.size,3,none⟩=some (.bool r):=qY;have f4:wd.cell? ⟨wr.heap.size,4,none⟩=some (aU o):=qY;have f5:wd.cell? ⟨wr.heap.size,5,none⟩=some (aU nn):=qY;clear hW e0 e1 e2 e3 e4 e5 HB HR aET;go_cut [12,15] (fun p e wx=>∃ (q:Nat) (er:Int) (M':dM),p=aU q∧e=aU er∧Img wx (w.heap.size+2) 19 adk∧Below w.heap.size w wx∧agv n told time b (.slice (some a) n cap) M ⟨c,d,s,r,o,nn⟩ pc q er M' wx)
  case first =>
   as_aux_lemma =>
    have hM:=aON.out;obtain⟨out,hI,hO⟩:=hM;have HI:=bW hI;have HO:=bW hO;have YJ:b<wd.heap.size:=hI.lt bQ;have r0:∀ k,k<11→wd.cell? ⟨b,1+k*3,none⟩=some (aU (M.regs k).kind):=fun k hk=>(hI.cell _ bQ).trans (congrArg some ((Ih hk (bQ:0<3) bQ).trans (aeT _)));have r1:∀ k,k<11→wd.cell? ⟨b,1+k*3+1,none⟩=some (aU (M.regs k).n):=fun k hk=>(hI.cell _ bQ).trans (congrArg some ((Ih hk (bQ:1<3) bQ).trans (ajF _)));have r2:∀ k,k<11→wd.cell? ⟨b,1+k*3+2,none⟩=some (aU (M.regs k).cell):=fun k hk=>(hI.cell _ bQ).trans (congrArg some ((Ih hk (bQ:2<3) bQ).trans (ajH _)));have ds0:=r0 d dN;have ds1:=r1 d dN;have ds2:=r2 d dN;have ss0:=r0 s sN;have ss1:=r1 s sN;have ss2:=r2 s sN;have zz0:wd.cell? ⟨b,1,none⟩=some (aU (M.regs 0).kind):=r0 0 bQ;have zz1:wd.cell? ⟨b,2,none⟩=some (aU (M.regs 0).n):=r1 0 bQ;clear hI hO r0 r1 r2;have hcl:c=28∨c=14∨(15≤c∧c≤24)∨c=25∨c=26∨c=27∨c=13∨c≤12:=bQ;rcases hcl with rfl|rfl|hc|rfl|rfl|rfl|rfl|hc
    ·as_aux_lemma =>
      have hst:=step_exit M told time d s r o nn pc;have HST:=bW hst;clear hst;by_cases e1:(M.regs 0).kind=1
      ·have t1:((M.regs 0).kind==1)=true:=by rw[beq_iff_eq];exact e1
       obtain⟨og,jM,rfl⟩:=aOE HO.out;have hs2:=HST.out;rw[dB e1]at hs2;have hr2:=wV.out;rw[hs2]at hr2;have HR2:=bW hr2;clear hr2 hs2 e1;have m16:wd.cell? ⟨b,107,none⟩=some (.slice og M.out.length jM):=HI.out.cell 107 bQ;have YB:w.heap.size+2<wd.heap.size:=HR1.out.lt bQ;have n2:¬w.heap.size+2=b:=bQ;have n3:¬b=w.heap.size+2:=bQ;go_wp2_with fail;refine OD 16 dF dF ?_;have h26:∀ dr os,(Instr.loadAt 55 (.pointer (some ⟨b,90,none⟩))).run Tryz.prog (Go.Sort.grow (redrawn wd dr) os)=.ok (.agg #[aU (M.cells 0),aU (M.cells 1),aU (M.cells 2),aU (M.cells 3),aU (M.cells 4),aU (M.cells 5),aU (M.cells 6),aU (M.cells 7),aU (M.cells 8),aU (M.cells 9),aU (M.cells 10),aU (M.cells 11),aU (M.cells 12),aU (M.cells 13),aU (M.cells 14),aU (M.cells 15)]) (Go.Sort.grow (redrawn wd dr) os):=fun dr os =>
        run_loadAt_mid _ b 90 55 [aU (M.cells 0),aU (M.cells 1),aU (M.cells 2),aU (M.cells 3),aU (M.cells 4),aU (M.cells 5),aU (M.cells 6),aU (M.cells 7),aU (M.cells 8),aU (M.cells 9),aU (M.cells 10),aU (M.cells 11),aU (M.cells 12),aU (M.cells 13),aU (M.cells 14),aU (M.cells 15)] _ (aOD (HI.out.later (below_regrown wd dr os) YJ)) Tryz.underlying55 rfl dF
       have k1:=cell_regrown zz1;have j16:=cell_regrown m16;repeat (quiet_step (fail))
       refine asl iC 55 _ iC ⟨b,90,none⟩ iC (.agg #[aU (M.cells 0),aU (M.cells 1),aU (M.cells 2),aU (M.cells 3),aU (M.cells 4),aU (M.cells 5),aU (M.cells 6),aU (M.cells 7),aU (M.cells 8),aU (M.cells 9),aU (M.cells 10),aU (M.cells 11),aU (M.cells 12),aU (M.cells 13),aU (M.cells 14),aU (M.cells 15)]) (fun w hw=>by obtain⟨p,rfl⟩:=hw;exact h26 _ _) ?_;iterate 5 quiet_step (fail)
       refine aGU iC 144 _ iC #[(0,aU (M.regs 0).n),(1,.agg #[aU (M.cells 0),aU (M.cells 1),aU (M.cells 2),aU (M.cells 3),aU (M.cells 4),aU (M.cells 5),aU (M.cells 6),aU (M.cells 7),aU (M.cells 8),aU (M.cells 9),aU (M.cells 10),aU (M.cells 11),aU (M.cells 12),aU (M.cells 13),aU (M.cells 14),aU (M.cells 15)]),(2,.slice og M.out.length jM),(3,aU st)] oZ #[aU (M.regs 0).n,aU (M.cells 0),aU (M.cells 1),aU (M.cells 2),aU (M.cells 3),aU (M.cells 4),aU (M.cells 5),aU (M.cells 6),aU (M.cells 7),aU (M.cells 8),aU (M.cells 9),aU (M.cells 10),aU (M.cells 11),aU (M.cells 12),aU (M.cells 13),aU (M.cells 14),aU (M.cells 15),.slice og M.out.length jM,aU st] (aOB _ _ _ _ _ _ _ _ _ _ _ _ _ _ _ _ _ _ _ _ _) ?_;refine YE ?_;intro wq hwq hbq;clear hwq k1 j16 h26;have qx:=bW (HB1.out.trans (hbq.mono bQ));have hO2:=HO.out.kept (But.of (b:=b) hbq).grown apS;have HO2:=bW hO2;have hR:=HR1.out.later hbq YB;have hth:wq.there (w.heap.size+1+1) 0 19:=fun j hj=>⟨by rw[Nat.zero_add,hR.cell j hj];rfl,by rw[Nat.zero_add];exact hR.free j hj⟩;have EI:=bW hth;clear hbq hO2 hR hth
       refine wpList_store_mid iC 144 _ _ iC (w.heap.size+1+1) 0 #[aU (M.regs 0).n,aU (M.cells 0),aU (M.cells 1),aU (M.cells 2),aU (M.cells 3),aU (M.cells 4),aU (M.cells 5),aU (M.cells 6),aU (M.cells 7),aU (M.cells 8),aU (M.cells 9),aU (M.cells 10),aU (M.cells 11),aU (M.cells 12),aU (M.cells 13),aU (M.cells 14),aU (M.cells 15),.slice og M.out.length jM,aU st] oZ oZ EI.out aqC (awR _ _ _ _ _ _ _ _ _ _ _ _ _ _ _ _ _ _ _ _ _) ?_;go_wp2_with fail
       have hld:(loadVar 144 ⟨w.heap.size+1+1,0,none⟩).run Tryz.prog (wq.setCells (w.heap.size+1+1) 0 [aU (M.regs 0).n,aU (M.cells 0),aU (M.cells 1),aU (M.cells 2),aU (M.cells 3),aU (M.cells 4),aU (M.cells 5),aU (M.cells 6),aU (M.cells 7),aU (M.cells 8),aU (M.cells 9),aU (M.cells 10),aU (M.cells 11),aU (M.cells 12),aU (M.cells 13),aU (M.cells 14),aU (M.cells 15),.slice og M.out.length jM,aU st])=.ok (.agg #[aU (M.regs 0).n,aU (M.cells 0),aU (M.cells 1),aU (M.cells 2),aU (M.cells 3),aU (M.cells 4),aU (M.cells 5),aU (M.cells 6),aU (M.cells 7),aU (M.cells 8),aU (M.cells 9),aU (M.cells 10),aU (M.cells 11),aU (M.cells 12),aU (M.cells 13),aU (M.cells 14),aU (M.cells 15),.slice og M.out.length jM,aU st]) (wq.setCells (w.heap.size+1+1) 0 [aU (M.regs 0).n,aU (M.cells 0),aU (M.cells 1),aU (M.cells 2),aU (M.cells 3),aU (M.cells 4),aU (M.cells 5),aU (M.cells 6),aU (M.cells 7),aU (M.cells 8),aU (M.cells 9),aU (M.cells 10),aU (M.cells 11),aU (M.cells 12),aU (M.cells 13),aU (M.cells 14),aU (M.cells 15),.slice og M.out.length jM,aU st]):=run_loadVar_mid (P:=Tryz.prog) _ (w.heap.size+1+1) 0 144 [aU (M.regs 0).n,aU (M.cells 0),aU (M.cells 1),aU (M.cells 2),aU (M.cells 3),aU (M.cells 4),aU (M.cells 5),aU (M.cells 6),aU (M.cells 7),aU (M.cells 8),aU (M.cells 9),aU (M.cells 10),aU (M.cells 11),aU (M.cells 12),aU (M.cells 13),aU (M.cells 14),aU (M.cells 15),.slice og M.out.length jM,aU st] _ (World.rangeAt_setCells_same wq (w.heap.size+1+1) 0 [aU (M.regs 0).n,aU (M.cells 0),aU (M.cells 1),aU (M.cells 2),aU (M.cells 3),aU (M.cells 4),aU (M.cells 5),aU (M.cells 6),aU (M.cells 7),aU (M.cells 8),aU (M.cells 9),aU (M.cells 10),aU (M.cells 11),aU (M.cells 12),aU (M.cells 13),aU (M.cells 14),aU (M.cells 15),.slice og M.out.length jM,aU st] EI.out) Tryz.underlying144 rfl aqC
       refine bodyPost_ret (results_cell_tmp Tryz.results52 (p:=⟨w.heap.size+1+1,0,none⟩) oZ (by simp[go_sem];rfl) hld) rfl ⟨⟨_,_,rfl,?_⟩,?_⟩
       ·rw[HR2.out];exact⟨_,rfl,rfl,b+1,asn HO2.out bQ⟩
       ·exact below_setCells bQ _ _ _ _ qx.out
      ·have t1:((M.regs 0).kind==1)=false:=by rw[beq_eq_false_iff_ne];exact e1
       by_cases e0:(M.regs 0).kind=0
       ·have t0:((M.regs 0).kind==0)=true:=by rw[beq_iff_eq];exact e0
        have hs2:=HST.out;rw[dw e1,dB e0]at hs2;have HS2:=bW hs2;clear hs2 e0 e1;go_wp2_with fail;go_meet
        go_light;exact⟨pc,8,M,rfl,rfl,HR1.out,HB1.out,.inr ⟨by decide,rfl,HS2.out⟩⟩
       ·have t0:((M.regs 0).kind==0)=false:=by rw[beq_eq_false_iff_ne];exact e0
        have hs2:=HST.out;rw[dw e1,dw e0]at hs2;have HS2:=bW hs2;clear hs2 e0 e1;go_wp2_with fail;go_meet
        go_light;exact⟨pc,1,M,rfl,rfl,HR1.out,HB1.out,.inr ⟨by decide,rfl,HS2.out⟩⟩
    ·as_aux_lemma =>
      obtain⟨o1,o2⟩:=HL.out (.inl rfl);obtain⟨o,rfl⟩:=Int.eq_ofNat_of_zero_le o1;have HST:=bW (aOM M told time d s r o nn pc);go_wp2_with fail;go_meet
      go_light;refine⟨pc+o,0,M,by go_num,rfl,HR1.out,HB1.out,.inl ⟨rfl,by omega,by omega,Hl.out,⟨out,HI.out,HO.out⟩,?_⟩⟩;rw[HST.out];congr 1
      omega
    ·as_aux_lemma =>
      have pn:pc+1<n:=by
       exact akb
      obtain⟨o1,o2⟩:=HL.out (.inr hc);obtain⟨o,rfl⟩:=Int.eq_ofNat_of_zero_le o1;have t28:(c==28)=false:=lW;have t14:(c==14)=false:=lW;have t15:15≤c:=hc.1;have t24:c≤24:=hc.2;have hst:=aOL M told time c hc d s r o nn pc;have hae:=aOC (M:=M) (t:=⟨c,d,s,r,o,nn⟩);have cL:=aOA b (.slice (some a) n cap) told time out M wd HI.out c s d r o nn dN ⟨by omega,by omega⟩ _ _ rfl rfl;generalize M.asks ⟨c,d,s,r,o,nn⟩=L at *;obtain⟨ab,ae⟩:=L;have HST:=bW hst;have HAE:=bW hae;have CL:=bW cL;clear hst hae cL hc;cases ab;all_goals
       go_wp2_with (go_at_call 68;refine(N9 _ _).mono ?_;rintro e w' ⟨rfl,rfl⟩;rw[jX]);refine CL.out.mono ?_;rintro e w3 ⟨rfl,hb3⟩;have qx:=bW (HB1.out.trans (hb3.mono bQ));have HRR:=bW (HR1.out.later hb3 bQ);have JD:Hid (wu w3 b (.slice (some a) n cap) told time M):=wu.later ⟨out,HI.out,HO.out⟩ hb3;have g4:w3.cell? ⟨wr.heap.size,4,none⟩=some (aU o):=(hb3.cell zd).trans f4;clear hb3;go_wp2_with fail;go_meet
       go_light
      ·refine⟨pc,ae,M,rfl,rfl,?_,?_,?_⟩
       ·exact aAM
       ·exact aAL
       ·refine agv.pair (HST.out.trans ?_) pn Hl.out JD.out;simp
      ·by_cases he:ae=0
       ·subst he;refine⟨pc+o,0,M,by go_num,rfl,?_,?_,.inl ⟨rfl,by omega,by omega,Hl.out,JD.out,?_⟩⟩
        ·exact aAM
        ·exact aAL
        ·rw[HST.out];simp;omega
       ·exact absurd (HAE.out he) dY
    ·as_aux_lemma =>
      have pn:pc+1<n:=by
       exact akb
      have k0:=cell_regrown f0;have k1:=cell_regrown f1;have k2:=cell_regrown f2;have k4:=cell_regrown f4;have k5:=cell_regrown ss0;have k6:=cell_regrown ss1;have k7:=cell_regrown ss2;have cL:∀ dr os,Calls Tryz.prog 81 #[.pointer (some ⟨b,0,none⟩),.agg #[aU (M.regs s).kind,aU (M.regs s).n,aU (M.regs s).cell],aU o] (Go.Sort.grow (redrawn wd dr) os) fun e w'' =>
       e=.returned (.tuple #[.agg #[aU (M.load told (M.regs s) o).1.kind,aU (M.load told (M.regs s) o).1.n,aU (M.load told (M.regs s) o).1.cell],aU (M.load told (M.regs s) o).2])∧∃ p:Regrown,w''=Go.Sort.grow (redrawn wd p.d) p.os:=fun dr os=>Calls.regrown_of (aOx b _ told time out M _ (HI.out.later (below_regrown wd dr os) YJ) (M.regs s) (Hl.out.1 s) o)
      have hst:=aOG M told time d s r o nn pc;have hml:=Hl.out.load told (M.regs s) o;generalize M.load told (M.regs s) o=L at *;obtain⟨⟨lk,ln,lc⟩,le⟩:=L;refine ZE ?_;intro HST zU CL;clear hst hml cL;go_wp2_with (go_at_call 68;refine(N9 _ _).mono ?_;rintro e w' ⟨rfl,rfl⟩;rw[jX]);refine YC 20 dF dF ?_;repeat (quiet_step (first|exact CL.out _ _))
      refine YE ?_;intro wq hwq hbq;clear hwq;clear k0 k1 k2 k4 k5 k6 k7 f0 f1 f2 f3 f4 f5;exact ar9
    ·as_aux_lemma =>
      have pn:pc+1<n:=by
       exact akb
      refine apZ ?_;intro k0 k1 k2 k3 k4 k8;have k5:=cell_regrown ds0;have k6:=cell_regrown ds1;have k7:=cell_regrown ds2;have hst:=aOH M told time d s r o nn pc;have hx:=Hl.out.second ⟨26,d,s,r,o,nn⟩;have cL:∀ dr os,Calls Tryz.prog 83 #[.pointer (some ⟨b,0,none⟩),.agg #[aU 26,aU d,aU s,.bool r,aU o,aU nn]] (Go.Sort.grow (redrawn wd dr) os) fun e w'' =>
       e=.returned (.agg #[aU (M.second ⟨26,d,s,r,o,nn⟩).kind,aU (M.second ⟨26,d,s,r,o,nn⟩).n,aU (M.second ⟨26,d,s,r,o,nn⟩).cell])∧∃ p:Regrown,w''=Go.Sort.grow (redrawn wd p.d) p.os:=fun dr os=>Calls.regrown_of (awg b _ told time out M _ (HI.out.later (below_regrown wd dr os) YJ) 26 d s r o nn ⟨by omega,by omega⟩)
      generalize M.second ⟨26,d,s,r,o,nn⟩=x at *;have hml:=Hl.out.store (M.regs d) o hx;have HVX:=bW hx;clear hx;refine ZE ?_;intro HST zU CL;clear hst hml cL;go_wp2_with (go_at_call 68;refine(N9 _ _).mono ?_;rintro e w' ⟨rfl,rfl⟩;rw[jX]);refine OD 13 dF dF ?_;repeat (quiet_step (first|exact CL.out _ _))
      refine YE ?_;intro wq hwq hbq;clear hwq;clear k0 k1 k2 k3 k4 k5 k6 k7 k8 f0 f1 f2 f3 f4 f5;have MQ:wu wq b (.slice (some a) n cap) told time M:=wu.later ⟨out,HI.out,HO.out⟩ hbq;have HMQ:=bW MQ;have qA:=bW hbq;clear MQ hbq;go_wp2_with fail;refine(aOy b _ told time M _ HMQ.out (M.regs d) (Hl.out.1 d) o x HVX.out).mono ?_;rintro e w3 ⟨rfl,JD,hb3⟩;have qx:=bW (HB1.out.trans ((qA.out.mono bQ).trans (hb3.mono bQ)));have HRR:=bW ((HR1.out.later qA.out bQ).later hb3 bQ);clear hb3;generalize M.store (M.regs d) o x=L at *;obtain⟨M2,le⟩:=L;have Fz:=zU;exact awx
    ·as_aux_lemma =>
      have pn:pc+1<n:=by
       exact akb
      have hnn:nn=1∨nn=2∨nn=3:=by
       have:=HN.out;unfold bad at this;omega
      have hst:=aOI M told time d s r o nn pc;have hml:=Hl.out.call time nn;have HST:=bW hst;have Fz:=bW hml;have HNN:=bW hnn;clear hst hml hnn;go_wp2_with (go_at_call 68;refine(N9 _ _).mono ?_;rintro e w' ⟨rfl,rfl⟩;rw[jX]);refine(aOz b _ told time M _ ⟨out,HI.out,HO.out⟩ nn HNN.out).mono ?_;rintro e w3 ⟨rfl,JD,hb3⟩;have qx:=bW (HB1.out.trans (hb3.mono bQ));have HRR:=bW (HR1.out.later hb3 bQ);clear hb3;generalize M.call time nn=L at *;obtain⟨M2,le⟩:=L;exact awx
    ·as_aux_lemma =>
      have pn:pc+1<n:=by
       exact akb
      have k0:=cell_regrown f0;have k1:=cell_regrown f1;have k5:=cell_regrown ds0;have k6:=cell_regrown ds1;have k7:=cell_regrown ds2;have cL:∀ dr os,Calls Tryz.prog 85 #[aU 13,.agg #[aU (M.regs d).kind,aU (M.regs d).n,aU (M.regs d).cell],.agg #[aU 1,aU 0,aU 0]] (Go.Sort.grow (redrawn wd dr) os) fun e w'' =>
       e=.returned (.tuple #[.agg #[aU (qM 13 (M.regs d) ⟨1,0,0⟩).1.kind,aU (qM 13 (M.regs d) ⟨1,0,0⟩).1.n,aU (qM 13 (M.regs d) ⟨1,0,0⟩).1.cell],aU (qM 13 (M.regs d) ⟨1,0,0⟩).2])∧∃ p:Regrown,w''=Go.Sort.grow (redrawn wd p.d) p.os:=fun dr os=>Calls.regrown_of (aER 13 _ _ _ 1 0 0 _)
      have hst:=aOJ M told time d s r o nn pc;have hml:=(Hl.out.1 d).counts (oJ.num 0) 13;simp only[Val.num]at hml;generalize qM 13 (M.regs d) ⟨1,0,0⟩=L at *;obtain⟨⟨lk,ln,lc⟩,le⟩:=L;refine ZE ?_;intro HST zU CL;clear hst hml cL;go_wp2_with (go_at_call 68;refine(N9 _ _).mono ?_;rintro e w' ⟨rfl,rfl⟩;rw[jX]);refine YC 20 dF dF ?_;repeat (quiet_step (first|exact CL.out _ _))
      refine YE ?_;intro wq hwq hbq;clear hwq;clear k0 k1 k5 k6 k7 f0 f1 f2 f3 f4 f5;exact ar9
    ·as_aux_lemma =>
      have pn:pc+1<n:=by
       exact akb
      refine apZ ?_;intro k0 k1 k2 k3 k4 k8;have k5:=cell_regrown ds0;have k6:=cell_regrown ds1;have k7:=cell_regrown ds2;have t28:(c==28)=false:=lW;have t14:(c==14)=false:=lW;have t25:(c==25)=false:=lW;have t26:(c==26)=false:=lW;have t27:(c==27)=false:=lW;have t13:(c==13)=false:=lW;have t15:decide (15≤c)=false:=eU;have hst:=aOK M told time c hc d s r o nn pc;have hx:=Hl.out.second ⟨c,d,s,r,o,nn⟩;have cS:∀ dr os,Calls Tryz.prog 83 #[.pointer (some ⟨b,0,none⟩),.agg #[aU c,aU d,aU s,.bool r,aU o,aU nn]] (Go.Sort.grow (redrawn wd dr) os) fun e w'' =>
       e=.returned (.agg #[aU (M.second ⟨c,d,s,r,o,nn⟩).kind,aU (M.second ⟨c,d,s,r,o,nn⟩).n,aU (M.second ⟨c,d,s,r,o,nn⟩).cell])∧∃ p:Regrown,w''=Go.Sort.grow (redrawn wd p.d) p.os:=fun dr os=>Calls.regrown_of (awg b _ told time out M _ (HI.out.later (below_regrown wd dr os) YJ) c d s r o nn ⟨by omega,by omega⟩)
      generalize M.second ⟨c,d,s,r,o,nn⟩=x at *;have cL:∀ dr os,Calls Tryz.prog 85 #[aU c,.agg #[aU (M.regs d).kind,aU (M.regs d).n,aU (M.regs d).cell],.agg #[aU x.kind,aU x.n,aU x.cell]] (Go.Sort.grow (redrawn wd dr) os) fun e w'' =>
       e=.returned (.tuple #[.agg #[aU (qM c (M.regs d) x).1.kind,aU (qM c (M.regs d) x).1.n,aU (qM c (M.regs d) x).1.cell],aU (qM c (M.regs d) x).2])∧∃ p:Regrown,w''=Go.Sort.grow (redrawn wd p.d) p.os:=fun dr os=>Calls.regrown_of (aER c _ _ _ _ _ _ _)
      have hml:=(Hl.out.1 d).counts hx c;generalize qM c (M.regs d) x=L at *;obtain⟨⟨lk,ln,lc⟩,le⟩:=L;have CS:=bW cS;clear cS hx hc;refine ZE ?_;intro HST zU CL;clear hst hml cL;go_wp2_with (go_at_call 68;refine(N9 _ _).mono ?_;rintro e w' ⟨rfl,rfl⟩;rw[jX]);refine YC 22 dF dF ?_;repeat (quiet_step (first|exact CL.out _ _|exact CS.out _ _))
      refine YE ?_;intro wq hwq hbq;clear hwq;clear k0 k1 k2 k3 k4 k5 k6 k7 k8 f0 f1 f2 f3 f4 f5;exact ar9
  case rest =>
   as_aux_lemma =>
    obtain⟨q,er,M',rfl,rfl,hR,hB,hS⟩:=hcut;have HRr:=bW hR;have BI:=bW hB;have zc:w.heap.size≤wc.heap.size:=hB.size;clear hR hB;rcases hS with ⟨rfl,hq1,hq2,hmo,hma,hst⟩|⟨he,hq,hst⟩
    ·have hr2:=wV.out;rw[hst]at hr2;have HR2:=bW hr2;have HMA:=bW hma;have aOO:=bW hmo;clear hr2 hst hma hmo;go_wp2_with fail;go_roundw
     case rel =>
      go_light;exact⟨q+1,st+1,f,M',by go_num,by go_num,by omega,by omega,by omega,aOO.out,HR2.out,HMA.out,HRr.out,BI.out⟩
     case measure=>simp[intOf];omega
    ·subst hq;have hr2:=wV.out;rw[hst]at hr2;have HR2:=bW hr2;have HE:=bW he;refine al3 ?_;intro t0 t1;clear hr2 hst he;have zr2:w.heap.size+2<wc.heap.size:=HRr.out.lt bQ;have hth:wc.there (w.heap.size+1+1) 0 (Array.size (#[aU 0,aU 0,aU 0,aU 0,aU 0,aU 0,aU 0,aU 0,aU 0,aU 0,aU 0,aU 0,aU 0,aU 0,aU 0,aU 0,aU 0,.slice none 0 0,aU 0]:Array Value)):=fun j hj=>⟨by rw[Nat.zero_add,HRr.out.cell j hj];rfl,by rw[Nat.zero_add];exact HRr.out.free j hj⟩;have EI:=bW hth;clear hth;go_upto_region 33 with fail;refine aAG ?_;go_wp2_with (with_reducible refine wpList_store_mid rfl 144 (.tmp 8) (.tmp 214) rfl (w.heap.size+1+1) 0 #[aU 0,aU 0,aU 0,aU 0,aU 0,aU 0,aU 0,aU 0,aU 0,aU 0,aU 0,aU 0,aU 0,aU 0,aU 0,aU 0,aU 0,.slice none 0 0,aU 0] iV iV (World.there_alloc EI.out _) aCi aoM ?_)
     have hld:(loadVar 144 ⟨w.heap.size+1+1,0,none⟩).run Tryz.prog ((wc.alloc (.cells #[aU er,aU q] 120)).setCells (w.heap.size+1+1) 0 [aU 0,aU 0,aU 0,aU 0,aU 0,aU 0,aU 0,aU 0,aU 0,aU 0,aU 0,aU 0,aU 0,aU 0,aU 0,aU 0,aU 0,.slice none 0 0,aU 0])=.ok (.agg #[aU 0,aU 0,aU 0,aU 0,aU 0,aU 0,aU 0,aU 0,aU 0,aU 0,aU 0,aU 0,aU 0,aU 0,aU 0,aU 0,aU 0,.slice none 0 0,aU 0]) ((wc.alloc (.cells #[aU er,aU q] 120)).setCells (w.heap.size+1+1) 0 [aU 0,aU 0,aU 0,aU 0,aU 0,aU 0,aU 0,aU 0,aU 0,aU 0,aU 0,aU 0,aU 0,aU 0,aU 0,aU 0,aU 0,.slice none 0 0,aU 0]):=run_loadVar_mid (P:=Tryz.prog) _ (w.heap.size+1+1) 0 144 [aU 0,aU 0,aU 0,aU 0,aU 0,aU 0,aU 0,aU 0,aU 0,aU 0,aU 0,aU 0,aU 0,aU 0,aU 0,aU 0,aU 0,.slice none 0 0,aU 0] _ (World.rangeAt_setCells_same _ (w.heap.size+1+1) 0 [aU 0,aU 0,aU 0,aU 0,aU 0,aU 0,aU 0,aU 0,aU 0,aU 0,aU 0,aU 0,aU 0,aU 0,aU 0,aU 0,aU 0,.slice none 0 0,aU 0] (World.there_alloc EI.out _)) Tryz.underlying144 rfl aqC;refine bodyPost_ret (results_cell_tmp Tryz.results52 (p:=⟨w.heap.size+1+1,0,none⟩) oZ (by simp[go_sem];rfl) hld) rfl ⟨⟨_,_,rfl,?_⟩,?_⟩
     ·rw[HR2.out];have B:=arY (b:=w.heap.size+1+1) [aU 0,aU 0,aU 0,aU 0,aU 0,aU 0,aU 0,aU 0,aU 0,aU 0,aU 0,aU 0,aU 0,aU 0,aU 0,aU 0,aU 0,.slice none 0 0,aU 0] 0 (wc.alloc (.cells #[aU er,aU q] 120)) _ (But.refl _ _);exact⟨rfl,.inr (.inr ⟨HE.out,wc.heap.size,rfl,B.cell (p:=⟨wc.heap.size,0,none⟩) oZ (by show wc.heap.size≠w.heap.size+1+1;omega),B.cell (p:=⟨wc.heap.size,1,none⟩) oZ (by show wc.heap.size≠w.heap.size+1+1;omega)⟩),HE.out⟩
     ·exact below_setCells bQ _ _ _ _ (BI.out.alloc bQ _)
end Go.Proofs.YtglilddlhibogaaGreatDoor.W
