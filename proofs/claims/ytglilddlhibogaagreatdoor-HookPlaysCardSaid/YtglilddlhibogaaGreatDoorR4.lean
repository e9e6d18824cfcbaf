/- A part of the proof; each theorem states its conditions. -/
import Derived.Test.YtglilddlhibogaaGreatDoorTell
import Derived.Test.YtglilddlhibogaaGreatDoorWalkBound
import Derived.Test.YtglilddlhibogaaGreatDoorOrd
import Derived.Test.YtglilddlhibogaaGreatDoorWalkRef
import Derived.Deep.DrawnRows
import Derived.Deep.DeepCutAuto
import Derived.Deep.Light
set_option linter.unusedSimpArgs false
set_option linter.unusedVariables false
set_option maxRecDepth 100000
set_option maxHeartbeats 100000000
namespace Go.Proofs.YtglilddlhibogaaGreatDoor.W
open Go.RowKit Go.Extern.Stop Go.Stop Go.Extern
theorem aLA(v:Value)(x:TypeId)(w:World):(Instr.typeAssert (.iface 30 v) x 119 true).run Tryz.prog w=.ok (.tuple #[.pointer none,.bool false]) w:=dF
theorem aLB(v:Value)(x:TypeId)(w:World):(Instr.typeAssert (.iface 119 v) x 119 true).run Tryz.prog w=.ok (.tuple #[v,.bool true]) w:=dF
theorem aLC(w:World):Calls Tryz.prog 72 #[.nilIface] w fun e w'=>e=.returned (aU 0)∧w=w':=by
 go_enter Tryz.func72,Tryz.ntmps72;exact ac0
theorem azr(n:Int)(w:World)(hg:w.cell? ⟨5,0,none⟩=some (.iface 317 (.agg #[.pointer (some ⟨14,26,none⟩)]))) :
  Calls Tryz.prog 72 #[.iface 30 (aU n)] w fun e w'=>e=.returned (aU n)∧Below w.heap.size w w':=by
 refine fU ?_;intro HW0;have hlt:=block_lt_of_cell hg;go_enter Tryz.func72,Tryz.ntmps72;go_wp2_with fail;refine(aGz n ⟨w.heap.size,0,none⟩ (aU 0) (w.alloc (.cells #[aU 0] 30)) ap7 dY dY).mono ?_;rintro e w' ⟨rfl,rfl⟩;exact YG
theorem aLD(b:Nat)(n:Int)(w:World)(hg:w.cell? ⟨5,0,none⟩=some (.iface 317 (.agg #[.pointer (some ⟨14,26,none⟩)])))(ha:w.cell? ⟨b,0,none⟩=some (aU n)) :
  Calls Tryz.prog 72 #[.iface 119 (.pointer (some ⟨b,0,none⟩))] w fun e w'=>e=.returned (aU n)∧Below w.heap.size w w':=by
 refine fU ?_;intro HW0;have hlt:=block_lt_of_cell hg;have hb:=block_lt_of_cell ha;go_enter Tryz.func72,Tryz.ntmps72;go_wp2_with fail;refine(aGE n b ⟨w.heap.size,0,none⟩ (aU 0) (w.alloc (.cells #[aU 0] 30)) ap7 (by rw[World.cell?_alloc_lt _ _ ⟨b,0,none⟩ hb];exact ha) (by simp;exact Nat.lt_succ_of_lt hb) dY dY).mono ?_;rintro e w' ⟨rfl,rfl⟩;exact YG
theorem aK9(w:World):Calls Tryz.prog 41 #[.nilIface] w fun e w'=>e=.returned (.tuple #[aU 0,aU (-1)])∧Below w.heap.size w w':=by
 go_enter Tryz.func41,Tryz.ntmps41;go_wp2_with fail;refine(aLC _).mono ?_;rintro e w' ⟨rfl,rfl⟩;go_wp2_with fail;refine wp_loop_rounds 2 ?_;rw[rounds_succ];go_wp2_with (rw[rounds_succ]);go_ret2
 exact⟨rfl,Below.refl _ _⟩
theorem aLa(n:Int)(w:World)(hg:w.cell? ⟨5,0,none⟩=some (.iface 317 (.agg #[.pointer (some ⟨14,26,none⟩)]))) :
  Calls Tryz.prog 41 #[.iface 30 (aU n)] w fun e w'=>e=.returned (.tuple #[aU n,aU (-1)])∧Below w.heap.size w w':=by
 have u1:=aGC;have u2:=aLA;go_enter Tryz.func41,Tryz.ntmps41;go_wp2_with fail;refine(azr n _ hg).mono ?_;rintro e w1 ⟨rfl,hb⟩;go_wp2_with fail;refine wp_loop_rounds 2 ?_;rw[rounds_succ];go_wp2_with (rw[rounds_succ]);go_ret2
 exact⟨rfl,hb⟩
theorem aLb(b:Nat)(n p:Int)(w:World)(hg:w.cell? ⟨5,0,none⟩=some (.iface 317 (.agg #[.pointer (some ⟨14,26,none⟩)])))(ha:w.cell? ⟨b,0,none⟩=some (aU n))(hp:w.cell? ⟨b,1,none⟩=some (aU p)) :
  Calls Tryz.prog 41 #[.iface 119 (.pointer (some ⟨b,0,none⟩))] w fun e w'=>e=.returned (.tuple #[aU n,aU p])∧Below w.heap.size w w':=by
 have hl:=block_lt_of_cell ha;have u2:=aLB;go_enter Tryz.func41,Tryz.ntmps41;go_wp2_with fail;refine(aLD b n _ hg ha).mono ?_;rintro e w1 ⟨rfl,hb⟩;have c1:w1.cell? ⟨b,1,none⟩=some (aU p):=(hb.cell (p:=⟨b,1,none⟩) hl).trans hp;have HW1:=bW hb;clear hb;go_wp2_with fail;refine wp_loop_rounds 2 ?_;rw[rounds_succ];go_wp2_with (rw[rounds_succ]);go_region;go_wp2_with fail;go_ret2
 exact⟨rfl,jZ⟩
end Go.Proofs.YtglilddlhibogaaGreatDoor.W
namespace Go.Proofs.YtglilddlhibogaaGreatDoor.W
open Go.RowKit Go.Proofs.YtglilddlhibogaaGreatDoor.P
theorem aJ1(k:Int)(hk:k=2∨k=3∨k=4)(w:World) :
  Calls Tryz.prog 148 #[.int .u8 (kl k)] w fun e w'=>e=.returned (.agg #[aU (low k),aU (high k)])∧Below w.heap.size w w':=by
 refine fU ?_;intro HW0;rcases hk with rfl|rfl|rfl
 all_goals
  simp only[kl,low,high,show¬(2:Int)=1 by decide,show¬(3:Int)=1 by decide,show¬(4:Int)=1 by decide,show¬(3:Int)=2 by decide,show¬(4:Int)=2 by decide,show¬(4:Int)=3 by decide,show¬(2:Int)=3 by decide,show¬(2:Int)=4 by decide,if_true,if_false];go_enter Tryz.func148,Tryz.ntmps148;go_wp2_with fail;refine bodyPost_ret ?_ rfl ⟨rfl,gI⟩;simp[results,Tryz.results148,go_sem]
theorem aJ2(k n c o:Int)(hk:k=0∨k=1)(w:World) :
  Calls Tryz.prog 122 #[.agg #[.int .u8 (kl k),aU n,aU c],aU o] w fun e w'=>e=.returned (.tuple #[aU (P.far ⟨k,n,c⟩ o).1,aU (P.far ⟨k,n,c⟩ o).2])∧Below w.heap.size w w':=by
 refine fU ?_;intro HW0;unfold P.far kl;rcases hk with rfl|rfl
 all_goals
  simp only[show¬(0:Int)=1 by decide,show¬(0:Int)=2 by decide,show¬(0:Int)=3 by decide,show¬(0:Int)=4 by decide,show¬(1:Int)=0 by decide,if_true,if_false];go_enter Tryz.func122,Tryz.ntmps122;go_wp2_with fail;go_ret2
  exact⟨rfl,gI⟩
attribute [local go_sem ↓] Go.wp_at_zero Go.wp_at_succ
theorem aJ3(k n c o l:Int)(hk:k=2∨k=3∨k=4)(hn:In64 n)(ho:In64 o)(hl:wrap64 (n+o)=l)(w:World) :
  Calls Tryz.prog 122 #[.agg #[.int .u8 (kl k),aU n,aU c],aU o] w fun e w'=>e=.returned (if l<low k∨high k<l then .tuple #[aU 0,aU 2]else .tuple #[aU l,aU 0])∧Below w.heap.size w w':=by
 refine fU ?_;intro HW0;have cS:∀ w',Calls Tryz.prog 148 #[.int .u8 (kl k)] w' fun e w''=>e=.returned (.agg #[aU (low k),aU (high k)])∧Below w'.heap.size w' w'':=fun w'=>aJ1 k hk w';have cD:∀ w',Calls Tryz.prog 156 #[aU 2,aU n,aU o] w' fun e w''=>e=.returned (aU l)∧w'=w'':=fun w'=>by
  have:=adi 2 n o hn ho w';rw[show P.does 2 n o=l from hl]at this;exact this
 have CS:=bW cS;have CD:=bW cD;have q0:(kl k==0)=false:=by rcases hk with rfl|rfl|rfl<;>rfl
 have q1:(kl k==110)=false:=by rcases hk with rfl|rfl|rfl<;>rfl
 clear cS cD hl hn ho hk;generalize low k=lo at *;generalize high k=hi at *;generalize kl k=kk at *;go_enter Tryz.func122,Tryz.ntmps122;go_wp2_with fail;generalize hW:World.alloc w _=wd;have HW1:Hid (Below w.heap.size w wd):=bW (hW▸(Below.refl w.heap.size w).alloc (Nat.le_refl _) _);have z1:w.heap.size<wd.heap.size:=OC;have e0:wd.cell? ⟨w.heap.size,0,none⟩=some (.int .u8 kk):=qY;have e1:wd.cell? ⟨w.heap.size,1,none⟩=some (aU n):=qY;clear hW;go_cut [6,7] (fun u6 u7 wr=>∃ p:Nat,u6=aU l∧u7=.pointer (some ⟨p,0,none⟩)∧wr.cell? ⟨p,0,none⟩=some (aU lo)∧wr.cell? ⟨p,1,none⟩=some (aU hi)∧Below w.heap.size w wr)
 case first =>
  have m1:¬w.heap.size=wd.heap.size:=bQ;have m2:¬wd.heap.size=w.heap.size:=bQ;go_region_held3 (fun w'=>w'.cell? ⟨w.heap.size,0,none⟩=some (.int .u8 kk)∧w'.cell? ⟨w.heap.size,1,none⟩=some (aU n))
   (first|go_keep|(go_split_ands;exact⟨by first|assumption|(rw[hb.cell fD];first|assumption|go_keep)|(simp[go_sem, *];done),by first|assumption|(rw[hb.cell fD];first|assumption|go_keep)|(simp[go_sem, *];done)⟩))
   (first|(go_at_call 156;refine(CD.out _).mono ?_;rintro e w' ⟨rfl,rfl⟩)|(go_at_call 148;refine(CS.out _).mono ?_;rintro e w1 ⟨rfl,hb⟩;obtain⟨hc1,hf1⟩:=jd hb;have z2:=hb.size;(try simp at z2);have y0:w1.cell? ⟨w.heap.size,0,none⟩=some (.int .u8 kk):=(hb.cell (p:=⟨w.heap.size,0,none⟩) fD).trans (by first|exact e0|(simp[go_sem,e0,z1];done));have y1:w1.cell? ⟨w.heap.size,1,none⟩=some (aU n):=(hb.cell (p:=⟨w.heap.size,1,none⟩) fD).trans (by first|exact e1|(simp[go_sem,e1,z1];done));(try (have z3:wd.heap.size<w1.heap.size:=bQ;have p0:w1.cell? ⟨wd.heap.size,0,none⟩=some (aU 0):=((hc1 _ _ fD).trans oZ);have p1:w1.cell? ⟨wd.heap.size,1,none⟩=some (aU 0):=((hc1 _ _ fD).trans oZ);have r0:w1.frozen? ⟨wd.heap.size,0,none⟩=false:=((hf1 _ _ fD).trans oZ);have r1:w1.frozen? ⟨wd.heap.size,1,none⟩=false:=((hf1 _ _ fD).trans oZ)));have z4:w.heap.size<w1.heap.size:=bQ;have l1:¬w.heap.size=w1.heap.size:=bQ;have l2:¬w1.heap.size=w.heap.size:=bQ;clear hc1 hf1))
  all_goals
   go_wp2_with fail;go_meet
   (first
    |(refine⟨w1.heap.size,?_,?_,?_,?_,?_⟩;with_reducible rfl;with_reducible rfl)
    |(refine⟨wd.heap.size,?_,?_,?_,?_,?_⟩;with_reducible rfl;with_reducible rfl))
  all_goals (first|(with_reducible refine Below.mono ?_ (Nat.le_refl _);go_light;repeat' (first|with_reducible exact HW1.out|with_reducible refine Below.drew ?_|with_reducible refine Below.alloc ?_ ?_ _|with_reducible refine Below.setCell ?_ ?_ _|with_reducible refine Below.trans ?_ (hb.mono ?_)|(simp;done)|(simp;omega)|omega))|(go_light;simp[go_sem, *];done))
 case rest =>
  obtain⟨p,rfl,rfl,b0,b1,HBc⟩:=hcut;have HWc:=bW HBc;clear HBc;by_cases h1:l<lo;all_goals
   go_wp2_with fail
  all_goals
   go_ret2
   refine⟨?_,HWc.out⟩;first|rfl|(rw[dB bQ];rfl)|(rw[dw bQ];rfl)
theorem aCz(v:Val)(o:Int)(hk:v.kind=0∨v.kind=1∨v.kind=2∨v.kind=3∨v.kind=4)(hn:In64 v.n)(ho:In64 o)(w:World) :
  Calls Tryz.prog 122 #[.agg #[.int .u8 (kl v.kind),aU v.n,aU v.cell],aU o] w fun e w'=>e=.returned (.tuple #[aU (P.far v o).1,aU (P.far v o).2])∧Below w.heap.size w w':=by
 obtain⟨k,n,c⟩:=v;simp only at hk hn ⊢;by_cases h:k=0∨k=1
 ·exact aJ2 k n c o h w
 ·have:=aJ3 k n c o _ bQ hn ho rfl w;have e:(if wrap64 (n+o)<low k∨high k<wrap64 (n+o)then(.tuple #[aU 0,aU 2]:Value)else .tuple #[aU (wrap64 (n+o)),aU 0])=.tuple #[aU (P.far ⟨k,n,c⟩ o).1,aU (P.far ⟨k,n,c⟩ o).2]:=by
   unfold P.far;simp only;rw[dw (bQ:¬k=0),dw (bQ:¬k=1)];split<;>rfl
  rw[e]at this;exact this
theorem aIb(b n:Nat)(I:Nat→Value)(o:Nat)(ho:o+2<n)(w:World)(hI:Img w b n I)(c:Int)(xk xn xc yk yn yc er:Int)(h0:I o=.int .u8 xk)(h1:I (o+1)=aU xn)(h2:I (o+2)=aU xc)(p:Value)
  (h : ((yk == 0) = true ∧ er = 8) ∨ ((yk == 0) = false ∧ (xk == 0) = true ∧ (c == 1) = false ∧ er = 8) ∨
   ((yk==0)=false∧(xk==0)=false∧(c==1)=false∧((xk==110)=false∨(yk==110)=false)∧((c==2)=false∨(xk==110)=false)∧((yk==110)=false∨((c==2)=false∧(c==3)=false))∧er=1)) :
  Calls Tryz.prog 124 #[p,aU c,.pointer (some ⟨b,o,none⟩),.agg #[.int .u8 yk,aU yn,aU yc]] w fun e w' =>
   e=.returned (aU er)∧Below w.heap.size w w':=by
 refine aun ?_;intro HW0 c0 c1 c2;have hlt:=hI.lt bQ;clear h0 h1 h2 hI;rcases h with ⟨t0,rfl⟩|⟨t0,t1,t2,rfl⟩|⟨t0,t1,t2,t3,t4,t5,rfl⟩
 ·go_enter Tryz.func124,Tryz.ntmps124;exact YG
 ·have t2':(c !=1)=true:=auH;go_enter Tryz.func124,Tryz.ntmps124;exact YG
 ·have t2':(c !=1)=true:=auH;rcases t3 with t3|t3<;>rcases t4 with t4|t4<;>rcases t5 with t5|⟨t5,t6⟩
  all_goals
   go_enter Tryz.func124,Tryz.ntmps124;go_wp2_with fail
  all_goals
   first
   |(go_ret;exact⟨rfl,gI⟩)
   |(exfalso;simp_all;done)
theorem aIc(b n:Nat)(I:Nat→Value)(o:Nat)(ho:o+2<n)(w:World)(hI:Img w b n I)(c:Int)(xk xn xc yk yn yc m:Int)(h0:I o=.int .u8 xk)(h1:I (o+1)=aU xn)(h2:I (o+2)=aU xc)(p:Value)
  (h:((yk==0)=false∧c=1∧m=yn)∨((yk==0)=false∧(xk==110)=true∧(yk==110)=false∧c=2∧m=wrap64 (yn+xn))) :
  Calls Tryz.prog 124 #[p,aU c,.pointer (some ⟨b,o,none⟩),.agg #[.int .u8 yk,aU yn,aU yc]] w fun e w' =>
   e=.returned (aU 0)∧Below w.heap.size (((w.setCell ⟨b,o,none⟩ (.int .u8 yk)).setCell ⟨b,o+1,none⟩ (aU m)).setCell ⟨b,o+2,none⟩ (aU yc)) w':=by
 refine aun ?_;intro HW0 c0 c1 c2;have f0:=hI.free o bQ;have f1:=hI.free (o+1) bQ;have f2:=hI.free (o+2) bQ;have hlt:=hI.lt bQ;have HI:=bW hI;clear h0 h1 h2 hI;rcases h with ⟨t0,rfl,rfl⟩|⟨t0,t1,t2,rfl,hm⟩
 ·cases hx:(xk==0);all_goals
   go_enter Tryz.func124,Tryz.ntmps124;go_wp2_with fail;go_ret
   exact⟨rfl,apP⟩
 ·have HM:=bW hm;have tx:(xk==0)=false:=by
   rw[beq_iff_eq]at t1;subst t1;rfl
  clear hm;go_enter Tryz.func124,Tryz.ntmps124;go_wp2_with fail;go_ret
  rw[HM.out];exact⟨rfl,apP⟩
theorem aId(b n:Nat)(I:Nat→Value)(o:Nat)(ho:o+2<n)(w:World)(hI:Img w b n I)(c:Int)(xk xn xc yk yn yc m:Int)(h0:I o=.int .u8 xk)(h1:I (o+1)=aU xn)(h2:I (o+2)=aU xc)(p:Value)(ix:In64 xn)(iy:In64 yn)
  (ty:(yk==110)=true) (h:((xk==110)=true∧(c==1)=false∧m=P.does c xn yn)∨((xk==110)=false∧(xk==0)=false∧c=2∧m=wrap64 (xn+yn))∨((xk==110)=false∧(xk==0)=false∧c=3∧m=wrap64 (xn-yn))) :
  Calls Tryz.prog 124 #[p,aU c,.pointer (some ⟨b,o,none⟩),.agg #[.int .u8 yk,aU yn,aU yc]] w fun e w' =>
   e=.returned (aU 0)∧Below w.heap.size (w.setCell ⟨b,o+1,none⟩ (aU m)) w':=by
 refine aun ?_;intro HW0 c0 c1 c2;have f1:=hI.free (o+1) bQ;have hlt:=hI.lt bQ;have IX:=bW ix;have IY:=bW iy;have t0:(yk==0)=false:=by
  rw[beq_iff_eq]at ty;subst ty;rfl
 clear h0 h1 h2 hI ix iy;rcases h with ⟨t1,t2,hm⟩|⟨t1,t2,rfl,hm⟩|⟨t1,t2,rfl,hm⟩
 ·have HM:=bW hm;have tx:(xk==0)=false:=by
   rw[beq_iff_eq]at t1;subst t1;rfl
  have t2':(c !=1)=true:=auH;clear hm;go_enter Tryz.func124,Tryz.ntmps124;go_wp2_with fail;refine(adi c xn yn IX.out IY.out _).mono ?_;rw[←HM.out];rintro e w' ⟨rfl,rfl⟩;go_wp2_with fail;go_ret
  exact⟨rfl,apP⟩
 ·exact aB2
 ·exact aB2
theorem acO{k:Int}(h:k=0∨k=1∨k=2∨k=3∨k=4):(kl k==0)=(k==0):=by rcases h with rfl|rfl|rfl|rfl|rfl<;>rfl
theorem aez{k:Int}(h:k=0∨k=1∨k=2∨k=3∨k=4):(kl k==110)=(k==1):=by rcases h with rfl|rfl|rfl|rfl|rfl<;>rfl
def amQ(b:Nat)(told:Nat→Int)(time num st:Int)(out:Value)(M:dM)(w:World)(c:Int)(r:Nat)(y:Val)(p:Value)(v:Val × Int):Prop :=
  Calls Tryz.prog 124 #[p,aU c,.pointer (some ⟨b,r*3,none⟩),.agg #[.int .u8 (kl y.kind),aU y.n,aU y.cell]] w fun e w' =>
   e=.returned (aU v.2)∧Img w' b 109 (kZ told time num st out (if v.2=0 then { M with regs:=upd M.regs r v.1}else M))∧But b w w'
theorem aIa(b:Nat)(told:Nat→Int)(time num st:Int)(out:Value)(M:dM)(w:World)(hI:Img w b 109 (kZ told time num st out M))(c:Int)(r:Nat)(hr:r<11)(y:Val)(hx:oJ (M.regs r))(hy:oJ y)(ix:In64 (M.regs r).n)(iy:In64 y.n)(hc0:(M.regs r).kind=1→(M.regs r).cell=0)(p:Value) :
  amQ b told time num st out M w c r y p (qM c (M.regs r) y):=by
 have hlt:=hI.lt bQ;have h0:kZ told time num st out M (r*3)=.int .u8 (kl (M.regs r).kind):=by rw[vX (bQ:r<27) (bQ:0<3) bQ,VO hr];rfl
 have h1:kZ told time num st out M (r*3+1)=aU (M.regs r).n:=by rw[vX (bQ:r<27) (bQ:1<3) bQ,VO hr];rfl
 have h2:kZ told time num st out M (r*3+2)=aU (M.regs r).cell:=by rw[vX (bQ:r<27) (bQ:2<3) bQ,VO hr];rfl
 have Zw:=acO hx.1;have Zx:=aez hx.1;have Gv:=acO hy.1;have H8:=aez hy.1;have same:∀ (er:Int) (v:Val),er≠0→((y.kind=0∧er=8)∨(y.kind≠0∧(M.regs r).kind=0∧c≠1∧er=8) ∨
   (y.kind≠0∧(M.regs r).kind≠0∧c≠1∧((M.regs r).kind≠1∨y.kind≠1)∧(c≠2∨(M.regs r).kind≠1)∧(y.kind≠1∨(c≠2∧c≠3))∧er=1))→amQ b told time num st out M w c r y p (v,er):=fun er v he hc=>by
  have:=aIb b 109 _ (r*3) bQ w hI c (kl (M.regs r).kind) (M.regs r).n (M.regs r).cell (kl y.kind) y.n y.cell er h0 h1 h2 p (by
   rw[Zw,Zx,Gv,H8]
   simp only[beq_iff_eq,beq_eq_false_iff_ne]
   exact hc)
  refine this.mono fun e w' ⟨h,hb⟩=>⟨h,?_,But.of hb⟩;simp only[dw he];exact hI.later hb hlt
 have three:∀ m:Int,((y.kind≠0∧c=1∧m=y.n)∨(y.kind≠0∧(M.regs r).kind=1∧y.kind≠1∧c=2∧m=wrap64 (y.n+(M.regs r).n)))→amQ b told time num st out M w c r y p (⟨y.kind,m,y.cell⟩,0):=fun m hc=>by
  have:=aIc b 109 _ (r*3) bQ w hI c (kl (M.regs r).kind) (M.regs r).n (M.regs r).cell (kl y.kind) y.n y.cell m h0 h1 h2 p (by
   rw[Zx,Gv,H8]
   simp only[beq_iff_eq,beq_eq_false_iff_ne]
   exact hc)
  refine this.mono fun e w' ⟨h,hb⟩=>⟨h,?_,((((But.refl b w).setCell (.inl rfl) _).setCell (.inl rfl) _).setCell (.inl rfl) _).trans (But.of (by simpa using hb))⟩;simp only[if_true];exact Img.later (hI.Dp hr ⟨y.kind,m,y.cell⟩ rfl rfl rfl) hb hlt
 have one:∀ m:Int,y.kind=1→(((M.regs r).kind=1∧c≠1∧m=P.does c (M.regs r).n y.n)∨((M.regs r).kind≠1∧(M.regs r).kind≠0∧c=2∧m=wrap64 ((M.regs r).n+y.n))∨((M.regs r).kind≠1∧(M.regs r).kind≠0∧c=3∧m=wrap64 ((M.regs r).n-y.n)))→amQ b told time num st out M w c r y p (⟨(M.regs r).kind,m,(M.regs r).cell⟩,0):=fun m ty hc=>by
  have:=aId b 109 _ (r*3) bQ w hI c (kl (M.regs r).kind) (M.regs r).n (M.regs r).cell (kl y.kind) y.n y.cell m h0 h1 h2 p ix iy (by rw[H8,beq_iff_eq];exact ty) (by
   rw[Zx,Zw]
   simp only[beq_iff_eq,beq_eq_false_iff_ne]
   exact hc)
  refine this.mono fun e w' ⟨h,hb⟩=>⟨h,?_,((But.refl b w).setCell (.inl rfl) _).trans (But.of (by simpa using hb))⟩;simp only[if_true];exact Img.later (hI.ay6 hr m rfl) hb hlt
 unfold qM;by_cases a0:y.kind=0∨((M.regs r).kind=0∧c≠1)
 ·rw[dB a0];exact same 8 _ dS bQ
 rw[dw a0];by_cases a1:c=1
 ·rw[dB a1];exact three y.n (.inl ⟨by omega,a1,rfl⟩)
 rw[dw a1];by_cases a2:(M.regs r).kind=1∧y.kind=1
 ·rw[dB a2];have:=one _ a2.2 (.inl ⟨a2.1,a1,rfl⟩);rw[a2.1,hc0 a2.1]at this;exact this
 rw[dw a2];by_cases a3:c=2∧(M.regs r).kind=1
 ·rw[dB a3];exact three _ (.inr ⟨by omega,a3.2,by omega,a3.1,rfl⟩)
 rw[dw a3];by_cases a4:y.kind≠1∨(c≠2∧c≠3)
 ·rw[dB a4];exact same 1 _ dS (.inr (.inr ⟨by omega,by omega,a1,by omega,by omega,a4,rfl⟩))
 rw[dw a4];by_cases a5:c=2
 ·subst a5;exact one _ bQ (.inr (.inl ⟨by omega,by omega,rfl,rfl⟩))
 ·obtain rfl:c=3:=bQ;exact one _ bQ (.inr (.inr ⟨by omega,by omega,rfl,rfl⟩))
theorem aEV(b:Nat)(told:Nat→Int)(time num st:Int)(out:Value)(M:dM)(w:World)(hI:Img w b 109 (kZ told time num st out M))(n:Int)(hn:n≠2)(hx:oJ (M.regs 1))(hk:(M.regs 1).kind≠1) :
  Calls Tryz.prog 123 #[.pointer (some ⟨b,0,none⟩),aU n] w fun e w'=>e=.returned (aU (if(M.regs 1).kind=0 then 8 else 1))∧Below w.heap.size w w':=by
 refine fU ?_;intro HW0;have c0:=(hI.cell 3 bQ).trans (congrArg some ((vX (r:=1) bQ (bQ:0<3) bQ).trans (ar6 _)));have c1:=(hI.cell 4 bQ).trans (congrArg some ((vX (r:=1) bQ (bQ:1<3) bQ).trans (ar7 _)));have c2:=(hI.cell 5 bQ).trans (congrArg some ((vX (r:=1) bQ (bQ:2<3) bQ).trans (ar8 _)));rw[VO (bQ:1<11)]at c0 c1 c2;have k0:=acO hx.1;have k1:=aez hx.1;have HI:=bW hI;clear hI;have n2:(n !=2)=true:=by rw[bne_iff_ne];exact hn
 have q2:(kl (M.regs 1).kind==110)=false:=by rw[k1,beq_eq_false_iff_ne];exact hk
 have q2':(kl (M.regs 1).kind !=110)=true:=by rw[bne_iff_ne];exact beq_eq_false_iff_ne.1 q2
 clear hn hk k1 hx;by_cases h:(M.regs 1).kind=0
 ·rw[dB h];have q1:(kl (M.regs 1).kind==0)=true:=by rw[k0,beq_iff_eq];exact h
  exact ayb
 ·rw[dw h];have q1:(kl (M.regs 1).kind==0)=false:=by rw[k0,beq_eq_false_iff_ne];exact h
  exact ayb
end Go.Proofs.YtglilddlhibogaaGreatDoor.W
