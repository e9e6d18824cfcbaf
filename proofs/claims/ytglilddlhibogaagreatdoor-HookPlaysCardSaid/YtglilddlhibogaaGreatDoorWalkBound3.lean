/- A part of the proof; each theorem states its conditions. -/
import Derived.Test.YtglilddlhibogaaGreatDoorWalkBound2
set_option linter.unusedSimpArgs false
set_option linter.unusedVariables false
set_option maxRecDepth 100000
set_option maxHeartbeats 100000000
namespace Go.Proofs.YtglilddlhibogaaGreatDoor.W
open Go.RowKit Go.Proofs.YtglilddlhibogaaGreatDoor.P
theorem aCS(c al ah bl bh:Int)(ia:In64 al)(eP:In64 ah)(ib:In64 bl)(ib2:In64 bh)(w:World) :
  Calls Tryz.prog 151 #[aU c,.agg #[aU al,aU ah],.agg #[aU bl,aU bh]] w fun e w'=>e=.returned (.tuple #[.agg #[aU (eX c ⟨al,ah⟩ ⟨bl,bh⟩).1.lo,aU (eX c ⟨al,ah⟩ ⟨bl,bh⟩).1.hi],.agg #[aU (eX c ⟨al,ah⟩ ⟨bl,bh⟩).2.1.lo,aU (eX c ⟨al,ah⟩ ⟨bl,bh⟩).2.1.hi],.bool (eX c ⟨al,ah⟩ ⟨bl,bh⟩).2.2])∧Below w.heap.size w w':=by
 refine fU ?_;intro HW0;refine ajw ?_;intro IA Eu IB uU;clear ia eP ib ib2;by_cases h1:c=15
 ·subst h1;generalize ho:ji ⟨al,ah⟩ ⟨bl,bh⟩=o;have e:eX 15 ⟨al,ah⟩ ⟨bl,bh⟩=(o.1,o.1,o.2):=ZF;rw[e];have HO:=bW ho;clear e ho;obtain⟨⟨ol,oh⟩,ob⟩:=o;go_enter Tryz.func151,Tryz.ntmps151;go_wp2_with fail;refine(amR _ _ _ _ _).mono ?_;refine atN ?_;intro w1 hc1 hf1 hz1 HW1 z10 z11 z12 z13 OE V7 OG V9 OH Wn OI Wp Rt Yl Ru Ym OJ Wq OL Ws;clear hc1 hf1;go_wp2_with fail;go_region;go_wp2_with fail;exact bodyPost_ret (v:=.tuple #[.agg #[aU (ol),aU (oh)],.agg #[aU (ol),aU (oh)],.bool ob]) aAR rfl ⟨rfl,jZ⟩
 by_cases h2:c=16
 ·subst h2;generalize ho:Nz ⟨al,ah⟩ ⟨bl,bh⟩=o;have e:eX 16 ⟨al,ah⟩ ⟨bl,bh⟩=o:=ZF;rw[e];have HO:=bW ho;clear e ho;obtain⟨⟨ol,oh⟩,⟨pl,ph⟩,ob⟩:=o;go_enter Tryz.func151,Tryz.ntmps151;go_wp2_with fail;refine(aIi _ _ _ _ IA.out Eu.out IB.out uU.out _).mono ?_;exact avs
 by_cases h3:c=21
 ·subst h3;generalize ho:pG ⟨al,ah⟩ ⟨bl,bh⟩ false=o;have e:eX 21 ⟨al,ah⟩ ⟨bl,bh⟩=o:=ZF;exact aCT
 by_cases h4:c=22
 ·subst h4;generalize ho:pG ⟨al,ah⟩ ⟨bl,bh⟩ true=o;have e:eX 22 ⟨al,ah⟩ ⟨bl,bh⟩=o:=ZF;exact aCT
 by_cases h5:c=23
 ·subst h5;generalize ho:pG ⟨bl,bh⟩ ⟨al,ah⟩ false=o;have e:eX 23 ⟨al,ah⟩ ⟨bl,bh⟩=BF o:=ZF;exact aCU
 by_cases h6:c=24
 ·subst h6;generalize ho:pG ⟨bl,bh⟩ ⟨al,ah⟩ true=o;have e:eX 24 ⟨al,ah⟩ ⟨bl,bh⟩=BF o:=ZF;exact aCU
 by_cases h7:c=19
 ·subst h7;generalize ho:zD ⟨al,ah⟩ ⟨bl,bh⟩ false=o;have e:eX 19 ⟨al,ah⟩ ⟨bl,bh⟩=o:=ZF;exact aCV
 by_cases h8:c=20
 ·subst h8;generalize ho:zD ⟨al,ah⟩ ⟨bl,bh⟩ true=o;have e:eX 20 ⟨al,ah⟩ ⟨bl,bh⟩=o:=ZF;exact aCV
 by_cases h9:c=17
 ·subst h9;generalize ho:zD ⟨bl,bh⟩ ⟨al,ah⟩ false=o;have e:eX 17 ⟨al,ah⟩ ⟨bl,bh⟩=BF o:=ZF;exact aCW
 by_cases h10:c=18
 ·subst h10;generalize ho:zD ⟨bl,bh⟩ ⟨al,ah⟩ true=o;have e:eX 18 ⟨al,ah⟩ ⟨bl,bh⟩=BF o:=ZF;exact aCW
 have e:eX c ⟨al,ah⟩ ⟨bl,bh⟩=(⟨al,ah⟩,⟨bl,bh⟩,true):=by
  unfold eX;simp only[h1,h2,h3,h4,h5,h6,h7,h8,h9,h10,or_self,if_false]
 rw[e];clear e;have t1:(c==15)=false:=AO;have t2:(c==16)=false:=Yy;have t3:(c==21)=false:=YO;have t4:(c==22)=false:=by simp[h4]
 have t5:(c==23)=false:=by simp[h5]
 have t6:(c==24)=false:=by simp[h6]
 have t7:(c==19)=false:=by simp[h7]
 have t8:(c==20)=false:=by simp[h8]
 have t9:(c==17)=false:=by simp[h9]
 have t10:(c==18)=false:=by simp[h10]
 clear h1 h2 h3 h4 h5 h6 h7 h8 h9 h10;go_enter Tryz.func151,Tryz.ntmps151;go_wp2_with fail;go_region;go_wp2_with fail;exact bodyPost_ret (v:=.tuple #[.agg #[aU (al),aU (ah)],.agg #[aU (bl),aU (bh)],.bool true]) (by simp[results,Tryz.results151,go_sem]) rfl ⟨rfl,gI⟩
end Go.Proofs.YtglilddlhibogaaGreatDoor.W
