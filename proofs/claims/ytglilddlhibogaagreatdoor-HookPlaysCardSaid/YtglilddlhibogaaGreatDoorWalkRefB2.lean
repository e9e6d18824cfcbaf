/- A part of the proof; each theorem states its conditions. -/
import Derived.Test.YtglilddlhibogaaGreatDoorWalkRefB
set_option linter.unusedSimpArgs false
set_option linter.unusedVariables false
set_option maxRecDepth 100000
set_option maxHeartbeats 100000000
namespace Go.Proofs.YtglilddlhibogaaGreatDoor.W
open Go.RowKit Go.Proofs.YtglilddlhibogaaGreatDoor.P
theorem aqv{P:Program}{f:FuncId}{args:Array Value}{w:World}{k n:Nat}{v:Value}(h:Calls P f args (w.drewN (k+n)) fun e w'=>e=.returned v∧w.drewN (k+n)=w') :
  Calls P f args (w.drewN (k+n)) fun e w'=>e=.returned v∧∃ m,w'=w.drewN (k+m):=h.mono fun _ _ ⟨he,hm⟩=>⟨he,n,hm.symm⟩
theorem aI9(al ah bl bh:Int)(ia:In64 al)(eP:In64 ah)(ib:In64 bl)(ib2:In64 bh)(ha:al≤ah)(hb:bl≤bh)(w:World)(hg0:w.cell? ⟨4,0,none⟩=some (aU (-9223372036854775808)))(hg1:w.cell? ⟨4,1,none⟩=some (aU 9223372036854775807))(gz:4<w.heap.size) :
  Calls Tryz.prog 147 #[aU 1,.agg #[aU al,aU ah],.agg #[aU bl,aU bh]] w fun e w'=>e=.returned (.agg #[aU ((dV 1 ⟨al,ah⟩ ⟨bl,bh⟩).lo),aU ((dV 1 ⟨al,ah⟩ ⟨bl,bh⟩).hi)])∧Below w.heap.size w w':=by
 refine JI ?_;intro HW0 Ep FC EJ FD FT Gl Gm;by_cases p0:0≤al
 ·exact aBV
 ·exact aBV
theorem aJa(al ah bl bh:Int)(ia:In64 al)(eP:In64 ah)(ib:In64 bl)(ib2:In64 bh)(ha:al≤ah)(hb:bl≤bh)(w:World)(hg0:w.cell? ⟨4,0,none⟩=some (aU (-9223372036854775808)))(hg1:w.cell? ⟨4,1,none⟩=some (aU 9223372036854775807))(gz:4<w.heap.size) :
  Calls Tryz.prog 147 #[aU 2,.agg #[aU al,aU ah],.agg #[aU bl,aU bh]] w fun e w'=>e=.returned (.agg #[aU ((dV 2 ⟨al,ah⟩ ⟨bl,bh⟩).lo),aU ((dV 2 ⟨al,ah⟩ ⟨bl,bh⟩).hi)])∧Below w.heap.size w w':=by
 refine JI ?_;intro HW0 Ep FC EJ FD FT Gl Gm;by_cases p0:0≤al
 ·exact aBW
 ·exact aBW
theorem aJb(al ah bl bh:Int)(ia:In64 al)(eP:In64 ah)(ib:In64 bl)(ib2:In64 bh)(ha:al≤ah)(hb:bl≤bh)(w:World)(hg0:w.cell? ⟨4,0,none⟩=some (aU (-9223372036854775808)))(hg1:w.cell? ⟨4,1,none⟩=some (aU 9223372036854775807))(gz:4<w.heap.size) :
  Calls Tryz.prog 147 #[aU 3,.agg #[aU al,aU ah],.agg #[aU bl,aU bh]] w fun e w'=>e=.returned (.agg #[aU ((dV 3 ⟨al,ah⟩ ⟨bl,bh⟩).lo),aU ((dV 3 ⟨al,ah⟩ ⟨bl,bh⟩).hi)])∧Below w.heap.size w w':=by
 refine JI ?_;intro HW0 Ep FC EJ FD FT Gl Gm;by_cases p0:0≤al
 ·exact aBX
 ·exact aBX
theorem aJc(al ah bl bh:Int)(ia:In64 al)(eP:In64 ah)(ib:In64 bl)(ib2:In64 bh)(ha:al≤ah)(hb:bl≤bh)(w:World)(hg0:w.cell? ⟨4,0,none⟩=some (aU (-9223372036854775808)))(hg1:w.cell? ⟨4,1,none⟩=some (aU 9223372036854775807))(gz:4<w.heap.size) :
  Calls Tryz.prog 147 #[aU 5,.agg #[aU al,aU ah],.agg #[aU bl,aU bh]] w fun e w'=>e=.returned (.agg #[aU ((dV 5 ⟨al,ah⟩ ⟨bl,bh⟩).lo),aU ((dV 5 ⟨al,ah⟩ ⟨bl,bh⟩).hi)])∧Below w.heap.size w w':=by
 refine JI ?_;intro HW0 Ep FC EJ FD FT Gl Gm;by_cases h1:0≤al
 ·by_cases h2:0≤bl
  ·by_cases h3:0<bl
   ·have e:dV 5 ⟨al,ah⟩ ⟨bl,bh⟩=⟨al/bh,ah/bl⟩:=(akd 5 ⟨al,ah⟩ ⟨bl,bh⟩).symm.trans (by unfold af8;simp only;rw[dB bQ];exact dB trivial);rw[e];clear e;have a1:0≤ah:=bQ;have a2:1≤bl:=bQ;have a3:1≤bh:=bQ;have a4:al≤9223372036854775807:=ia.2;have a5:ah≤9223372036854775807:=eP.2;have a6:¬bl=0:=bQ;have a7:¬bh=0:=bQ;clear ia eP ib ib2 ha hb;go_enter Tryz.func147,Tryz.ntmps147;go_wp2_with fail;refine ak9 11 dF dF ?_;refine aoy ?_;repeat (still_step;try go_bits)
    refine wpStill_nil ?_;go_wp2_with fail;exact bodyPost_ret (v:=.agg #[aU (al/bh),aU (ah/bl)]) Df rfl ⟨rfl,gI⟩
   ·have e:dV 5 ⟨al,ah⟩ ⟨bl,bh⟩=⟨0,ah⟩:=(akd 5 ⟨al,ah⟩ ⟨bl,bh⟩).symm.trans (by unfold af8;simp only;rw[dw bQ,dB bQ]);rw[e];clear e;exact anD
  ·exact aAk
 ·exact aAk
theorem aJd(al ah bl bh:Int)(ia:In64 al)(eP:In64 ah)(ib:In64 bl)(ib2:In64 bh)(ha:al≤ah)(hb:bl≤bh)(w:World)(hg0:w.cell? ⟨4,0,none⟩=some (aU (-9223372036854775808)))(hg1:w.cell? ⟨4,1,none⟩=some (aU 9223372036854775807))(gz:4<w.heap.size) :
  Calls Tryz.prog 147 #[aU 6,.agg #[aU al,aU ah],.agg #[aU bl,aU bh]] w fun e w'=>e=.returned (.agg #[aU ((dV 6 ⟨al,ah⟩ ⟨bl,bh⟩).lo),aU ((dV 6 ⟨al,ah⟩ ⟨bl,bh⟩).hi)])∧Below w.heap.size w w':=by
 refine JI ?_;intro HW0 Ep FC EJ FD FT Gl Gm;by_cases h1:0≤al
 ·by_cases h2:0≤bl
  ·by_cases h3:0<bl
   ·have e:dV 6 ⟨al,ah⟩ ⟨bl,bh⟩=⟨0,min ah (bh-1)⟩:=(akd 6 ⟨al,ah⟩ ⟨bl,bh⟩).symm.trans (by unfold af8;simp only;rw[dB bQ,dw bQ]);rw[e];clear e;have a4:bh-1≤9223372036854775807:=by have:=ib2.2;omega
    have a5:-9223372036854775808≤bh-1:=bQ;clear ia eP ib ib2 ha hb;go_enter Tryz.func147,Tryz.ntmps147;go_wp2_with fail;exact bodyPost_ret (v:=.agg #[aU (0),aU (min ah (bh-1))]) Df rfl ⟨rfl,gI⟩
   ·have e:dV 6 ⟨al,ah⟩ ⟨bl,bh⟩=⟨0,ah⟩:=(akd 6 ⟨al,ah⟩ ⟨bl,bh⟩).symm.trans (by unfold af8;simp only;rw[dw bQ,dB bQ]);rw[e];clear e;exact anD
  ·exact aAm
 ·exact aAm
theorem aJe(al ah bl bh:Int)(ia:In64 al)(eP:In64 ah)(ib:In64 bl)(ib2:In64 bh)(ha:al≤ah)(hb:bl≤bh)(w:World)(hg0:w.cell? ⟨4,0,none⟩=some (aU (-9223372036854775808)))(hg1:w.cell? ⟨4,1,none⟩=some (aU 9223372036854775807))(gz:4<w.heap.size) :
  Calls Tryz.prog 147 #[aU 7,.agg #[aU al,aU ah],.agg #[aU bl,aU bh]] w fun e w'=>e=.returned (.agg #[aU ((dV 7 ⟨al,ah⟩ ⟨bl,bh⟩).lo),aU ((dV 7 ⟨al,ah⟩ ⟨bl,bh⟩).hi)])∧Below w.heap.size w w':=by
 refine JI ?_;intro HW0 Ep FC EJ FD FT Gl Gm;by_cases h1:0≤al
 ·by_cases h2:0≤bl
  ·have e:dV 7 ⟨al,ah⟩ ⟨bl,bh⟩=⟨0,min ah bh⟩:=(aqw (a:=⟨al,ah⟩) (b:=⟨bl,bh⟩) ⟨ib,ib2,hb⟩).symm.trans (by unfold akw;simp only;rw[dB h2,dB h1]);rw[e];clear e;clear ia eP ib ib2 ha hb;go_enter Tryz.func147,Tryz.ntmps147;go_wp2_with fail;exact bodyPost_ret (v:=.agg #[aU (0),aU (min ah bh)]) Df rfl ⟨rfl,gI⟩
  ·have e:dV 7 ⟨al,ah⟩ ⟨bl,bh⟩=⟨0,ah⟩:=(aqw (a:=⟨al,ah⟩) (b:=⟨bl,bh⟩) ⟨ib,ib2,hb⟩).symm.trans (by unfold akw;simp only;rw[dw h2,dB h1]);rw[e];clear e;exact anD
 ·by_cases h2:0≤bl
  ·have e:dV 7 ⟨al,ah⟩ ⟨bl,bh⟩=⟨0,min 9223372036854775807 bh⟩:=(aqw (a:=⟨al,ah⟩) (b:=⟨bl,bh⟩) ⟨ib,ib2,hb⟩).symm.trans (by unfold akw;simp only;rw[dB h2,dw h1]);rw[e];clear e;clear ia eP ib ib2 ha hb;go_enter Tryz.func147,Tryz.ntmps147;go_wp2_with fail;exact bodyPost_ret (v:=.agg #[aU (0),aU (min 9223372036854775807 bh)]) Df rfl ⟨rfl,gI⟩
  ·have e:dV 7 ⟨al,ah⟩ ⟨bl,bh⟩=⟨(-9223372036854775808),9223372036854775807⟩:=(aqw (a:=⟨al,ah⟩) (b:=⟨bl,bh⟩) ⟨ib,ib2,hb⟩).symm.trans (by unfold akw;simp only;rw[dw h2,dw h1];rfl);rw[e];clear e;exact ac9
theorem aJf(al ah bl bh:Int)(ia:In64 al)(eP:In64 ah)(ib:In64 bl)(ib2:In64 bh)(ha:al≤ah)(hb:bl≤bh)(w:World)(hg0:w.cell? ⟨4,0,none⟩=some (aU (-9223372036854775808)))(hg1:w.cell? ⟨4,1,none⟩=some (aU 9223372036854775807))(gz:4<w.heap.size) :
  Calls Tryz.prog 147 #[aU 8,.agg #[aU al,aU ah],.agg #[aU bl,aU bh]] w fun e w'=>e=.returned (.agg #[aU ((dV 8 ⟨al,ah⟩ ⟨bl,bh⟩).lo),aU ((dV 8 ⟨al,ah⟩ ⟨bl,bh⟩).hi)])∧Below w.heap.size w w':=by
 refine JI ?_;intro HW0 Ep FC EJ FD FT Gl Gm;by_cases h1:0≤al
 ·by_cases h2:0≤bl
  ·have e:dV 8 ⟨al,ah⟩ ⟨bl,bh⟩=⟨max al bl,P.fill (max ah bh)⟩:=(aAq ⟨al,ah⟩ ⟨bl,bh⟩).symm.trans (by unfold ap3;simp only;rw[dB ⟨h1,h2⟩]);rw[e];clear e;have hm:=bW (show In64 (max ah bh)by unfold In64 at *;omega);clear ia eP ib ib2 ha hb;go_enter Tryz.func147,Tryz.ntmps147;go_wp2_with fail;refine ak9 12 dF dF ?_;refine aoy ?_;repeat still_step
   still_call ((aBT _ hm.out _).mono (fun _ _ h=>⟨h.1,h.2.symm⟩))
   repeat still_step
   refine wpStill_nil ?_;go_wp2_with fail;exact bodyPost_ret (v:=.agg #[aU (max al bl),aU (P.fill (max ah bh))]) Df rfl ⟨rfl,gI⟩
  ·exact aAp
 ·exact aAp
theorem aJg(al ah bl bh:Int)(ia:In64 al)(eP:In64 ah)(ib:In64 bl)(ib2:In64 bh)(ha:al≤ah)(hb:bl≤bh)(w:World)(hg0:w.cell? ⟨4,0,none⟩=some (aU (-9223372036854775808)))(hg1:w.cell? ⟨4,1,none⟩=some (aU 9223372036854775807))(gz:4<w.heap.size) :
  Calls Tryz.prog 147 #[aU 9,.agg #[aU al,aU ah],.agg #[aU bl,aU bh]] w fun e w'=>e=.returned (.agg #[aU ((dV 9 ⟨al,ah⟩ ⟨bl,bh⟩).lo),aU ((dV 9 ⟨al,ah⟩ ⟨bl,bh⟩).hi)])∧Below w.heap.size w w':=by
 refine JI ?_;intro HW0 Ep FC EJ FD FT Gl Gm;by_cases h1:0≤al
 ·by_cases h2:0≤bl
  ·have e:dV 9 ⟨al,ah⟩ ⟨bl,bh⟩=⟨0,P.fill (max ah bh)⟩:=(aAo ⟨al,ah⟩ ⟨bl,bh⟩).symm.trans (by unfold ap2;simp only;rw[dB ⟨h1,h2⟩]);rw[e];clear e;have hm:=bW (show In64 (max ah bh)by unfold In64 at *;omega);clear ia eP ib ib2 ha hb;go_enter Tryz.func147,Tryz.ntmps147;go_wp2_with (go_at_call 179;refine(aBT _ hm.out _).mono ?_;rintro e w' ⟨rfl,rfl⟩);exact bodyPost_ret (v:=.agg #[aU (0),aU (P.fill (max ah bh))]) Df rfl ⟨rfl,gI⟩
  ·exact aAn
 ·exact aAn
theorem aJh(al ah bl bh:Int)(ia:In64 al)(eP:In64 ah)(ib:In64 bl)(ib2:In64 bh)(ha:al≤ah)(hb:bl≤bh)(w:World)(hg0:w.cell? ⟨4,0,none⟩=some (aU (-9223372036854775808)))(hg1:w.cell? ⟨4,1,none⟩=some (aU 9223372036854775807))(gz:4<w.heap.size) :
  Calls Tryz.prog 147 #[aU 10,.agg #[aU al,aU ah],.agg #[aU bl,aU bh]] w fun e w'=>e=.returned (.agg #[aU ((dV 10 ⟨al,ah⟩ ⟨bl,bh⟩).lo),aU ((dV 10 ⟨al,ah⟩ ⟨bl,bh⟩).hi)])∧Below w.heap.size w w':=by
 refine JI ?_;intro HW0 Ep FC EJ FD FT Gl Gm;by_cases p0:0≤al
 ·exact aBY
 ·exact aBY
theorem aJi(al ah bl bh:Int)(ia:In64 al)(eP:In64 ah)(ib:In64 bl)(ib2:In64 bh)(ha:al≤ah)(hb:bl≤bh)(w:World)(hg0:w.cell? ⟨4,0,none⟩=some (aU (-9223372036854775808)))(hg1:w.cell? ⟨4,1,none⟩=some (aU 9223372036854775807))(gz:4<w.heap.size) :
  Calls Tryz.prog 147 #[aU 11,.agg #[aU al,aU ah],.agg #[aU bl,aU bh]] w fun e w'=>e=.returned (.agg #[aU ((dV 11 ⟨al,ah⟩ ⟨bl,bh⟩).lo),aU ((dV 11 ⟨al,ah⟩ ⟨bl,bh⟩).hi)])∧Below w.heap.size w w':=by
 refine JI ?_;intro HW0 Ep FC EJ FD FT Gl Gm;refine aoz ?_;intro ke k0 k1;have IK:=bW (show In64 (sh bl:Int)by unfold In64;omega);have IA:=bW ia;have Eu:=bW eP;by_cases h3:0≤al
 ·by_cases h1:bl=bh
  ·by_cases h2:(sh bl:Int)=0
   ·exact aBZ
   ·have e:dV 11 ⟨al,ah⟩ ⟨bl,bh⟩=⟨P.does 12 al (sh bl:Int),P.does 12 ah (sh bl:Int)⟩:=(anE ⟨al,ah⟩ ⟨bl,bh⟩).symm.trans (by unfold agb rk;simp only;rw[dw (fun x=>h2 x.2),dB ⟨h1,h3⟩]);rw[e];clear e;have t1:(bl==bh)=true:=AO;have t2:((sh bl:Int)==0)=false:=aqk;clear h1 h2;exact aAf
  ·have e:dV 11 ⟨al,ah⟩ ⟨bl,bh⟩=⟨0,ah⟩:=(anE ⟨al,ah⟩ ⟨bl,bh⟩).symm.trans (by unfold agb rk;simp only;rw[dw (fun x=>h1 x.1),dw (fun x=>h1 x.1),dw h1,dB h3]);rw[e];clear e;have t1:(bl==bh)=false:=AO;clear h1;exact anD
 ·by_cases h1:bl=bh
  ·by_cases h2:(sh bl:Int)=0
   ·exact aBZ
   ·have e:dV 11 ⟨al,ah⟩ ⟨bl,bh⟩=⟨0,P.does 11 (-1) (sh bl:Int)⟩:=(anE ⟨al,ah⟩ ⟨bl,bh⟩).symm.trans (by unfold agb rk;simp only;rw[dw (fun x=>h2 x.2),dw (fun x=>h3 x.2),dB h1]);rw[e];clear e;have t1:(bl==bh)=true:=AO;have t2:((sh bl:Int)==0)=false:=aqk;have IM:=bW (show In64 (-1)by decide);clear h1 h2;clear ia eP ib ib2 ha hb;go_enter Tryz.func147,Tryz.ntmps147;go_wp2_with (go_at_call 156;refine(adi _ _ _ (by first|exact IA.out|exact Eu.out|exact IM.out) (by first|exact IK.out) _).mono ?_;rintro e w' ⟨rfl,rfl⟩);exact bodyPost_ret (v:=.agg #[aU (0),aU (P.does 11 (-1) (sh bl:Int))]) Df rfl ⟨rfl,gI⟩
  ·have e:dV 11 ⟨al,ah⟩ ⟨bl,bh⟩=⟨(-9223372036854775808),9223372036854775807⟩:=(anE ⟨al,ah⟩ ⟨bl,bh⟩).symm.trans (by unfold agb rk;simp only;rw[dw (fun x=>h1 x.1),dw (fun x=>h1 x.1),dw h1,dw h3];rfl);rw[e];clear e;have t1:(bl==bh)=false:=AO;clear h1;exact ac9
theorem aJj(al ah bl bh:Int)(ia:In64 al)(eP:In64 ah)(ib:In64 bl)(ib2:In64 bh)(ha:al≤ah)(hb:bl≤bh)(w:World)(hg0:w.cell? ⟨4,0,none⟩=some (aU (-9223372036854775808)))(hg1:w.cell? ⟨4,1,none⟩=some (aU 9223372036854775807))(gz:4<w.heap.size) :
  Calls Tryz.prog 147 #[aU 12,.agg #[aU al,aU ah],.agg #[aU bl,aU bh]] w fun e w'=>e=.returned (.agg #[aU ((dV 12 ⟨al,ah⟩ ⟨bl,bh⟩).lo),aU ((dV 12 ⟨al,ah⟩ ⟨bl,bh⟩).hi)])∧Below w.heap.size w w':=by
 refine JI ?_;intro HW0 Ep FC EJ FD FT Gl Gm;refine aoz ?_;intro ke k0 k1;have IK:=bW (show In64 (sh bl:Int)by unfold In64;omega);have IA:=bW ia;have Eu:=bW eP;by_cases h3:0≤al
 ·by_cases h1:bl=bh
  ·exact aAe
  ·have e:dV 12 ⟨al,ah⟩ ⟨bl,bh⟩=⟨0,ah⟩:=(apX ⟨al,ah⟩ ⟨bl,bh⟩).symm.trans (by unfold aj7 rk;simp only;rw[dw h1,dB h3]);rw[e];clear e;have t1:(bl==bh)=false:=AO;clear h1;exact anD
 ·by_cases h1:bl=bh
  ·exact aAe
  ·by_cases h4:ah<0
   ·have e:dV 12 ⟨al,ah⟩ ⟨bl,bh⟩=⟨al,-1⟩:=(apX ⟨al,ah⟩ ⟨bl,bh⟩).symm.trans (by unfold aj7 rk;simp only;rw[dw h1,dw h3,dB h4]);rw[e];clear e;have t1:(bl==bh)=false:=AO;clear h1;clear ia eP ib ib2 ha hb;go_enter Tryz.func147,Tryz.ntmps147;go_wp2_with fail;exact bodyPost_ret (v:=.agg #[aU (al),aU (-1)]) Df rfl ⟨rfl,gI⟩
   ·have e:dV 12 ⟨al,ah⟩ ⟨bl,bh⟩=⟨al,ah⟩:=(apX ⟨al,ah⟩ ⟨bl,bh⟩).symm.trans (by unfold aj7 rk;simp only;rw[dw h1,dw h3,dw h4]);rw[e];clear e;have t1:(bl==bh)=false:=AO;clear h1;clear ia eP ib ib2 ha hb;go_enter Tryz.func147,Tryz.ntmps147;go_wp2_with fail;exact bodyPost_ret (v:=.agg #[aU (al),aU (ah)]) Df rfl ⟨rfl,gI⟩
theorem aJk(al ah bl bh:Int)(ia:In64 al)(eP:In64 ah)(ib:In64 bl)(ib2:In64 bh)(ha:al≤ah)(hb:bl≤bh)(w:World)(hg0:w.cell? ⟨4,0,none⟩=some (aU (-9223372036854775808)))(hg1:w.cell? ⟨4,1,none⟩=some (aU 9223372036854775807))(gz:4<w.heap.size) :
  Calls Tryz.prog 147 #[aU 13,.agg #[aU al,aU ah],.agg #[aU bl,aU bh]] w fun e w'=>e=.returned (.agg #[aU ((dV 13 ⟨al,ah⟩ ⟨bl,bh⟩).lo),aU ((dV 13 ⟨al,ah⟩ ⟨bl,bh⟩).hi)])∧Below w.heap.size w w':=by
 refine JI ?_;intro HW0 Ep FC EJ FD FT Gl Gm;by_cases p0:0≤al
 ·have h1:-9223372036854775808<al:=bQ;exact aB0
 ·by_cases h1:-9223372036854775808<al
  ·exact aB0
  ·have e:dV 13 ⟨al,ah⟩ ⟨bl,bh⟩=⟨(-9223372036854775808),9223372036854775807⟩:=(aB1 (a:=⟨al,ah⟩) (b:=⟨bl,bh⟩) ⟨ia,eP,ha⟩).symm.trans (by unfold aqx;simp only;rw[dw h1];rfl);rw[e];clear e;exact ac9
theorem aJl(c:Int)(hc:c<1∨13<c)(al ah bl bh:Int)(ia:In64 al)(eP:In64 ah)(ib:In64 bl)(ib2:In64 bh)(ha:al≤ah)(hb:bl≤bh)(w:World)(hg0:w.cell? ⟨4,0,none⟩=some (aU (-9223372036854775808)))(hg1:w.cell? ⟨4,1,none⟩=some (aU 9223372036854775807))(gz:4<w.heap.size) :
  Calls Tryz.prog 147 #[aU c,.agg #[aU al,aU ah],.agg #[aU bl,aU bh]] w fun e w'=>e=.returned (.agg #[aU ((dV c ⟨al,ah⟩ ⟨bl,bh⟩).lo),aU ((dV c ⟨al,ah⟩ ⟨bl,bh⟩).hi)])∧Below w.heap.size w w':=by
 refine JI ?_;intro HW0 Ep FC EJ FD FT Gl Gm;by_cases p0:0≤al
 ·exact az6
 ·exact az6
end Go.Proofs.YtglilddlhibogaaGreatDoor.W
