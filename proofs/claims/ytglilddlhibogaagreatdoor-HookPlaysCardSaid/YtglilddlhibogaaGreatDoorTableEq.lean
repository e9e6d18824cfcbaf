/- A part of the proof; each theorem states its conditions. -/
import Derived.Test.YtglilddlhibogaaGreatDoorOneRun
set_option linter.unusedSimpArgs false
set_option linter.unusedVariables false
set_option maxRecDepth 100000
set_option maxHeartbeats 100000000
namespace Go.Proofs.YtglilddlhibogaaGreatDoor.R
open Go.ChangeShapes Go.WideShapes Go.ChangeAt Go.RowKit Go.Joins Go.Deep
theorem aHv{P:Program}{w:World}{r:Reach}{b0:Nat}{t e:TypeId}{n:Nat}{v:Value}(ht:P.underlying t=some (.array n e))(h:Value.okWide P w r b0 t v):∃ cs:Array Value,v=.agg cs∧cs.size=P.cellsOf t:=by
 simp only[Value.okWide,ht]at h;obtain⟨cs,h1,h2,_⟩:=h;exact⟨cs,h1,h2⟩
theorem ayC{cs:Array Value}{n:Nat}(hsz:cs.size=n)(h:∀ i,i<n→∃ k,cs[i]?=some (aU k)∧P.In64 k):∃ f:Nat→Int,(∀ r,P.In64 (f r))∧cs=((List.range n).map fun j=>aU (f j)).toArray:=by
 refine⟨fun i=>if hl:i<n then Classical.choose (h i hl)else 0,fun r=>?_,?_⟩
 ·simp only;split
  ·rename_i hl;exact(Classical.choose_spec (h r hl)).2
  ·exact P.AL
 ·apply Array.ext';apply List.ext_getElem?;intro i;by_cases hl:i<n
  ·rw[Array.getElem?_toList,(Classical.choose_spec (h i hl)).1];simp[hl]
  ·rw[List.getElem?_eq_none eU,List.getElem?_eq_none eU]
theorem aHx:Tryz.prog.cellsOf 34=8:=dF
theorem as2:Tryz.prog.cellsOf 2=1:=dF
end Go.Proofs.YtglilddlhibogaaGreatDoor.R
namespace Go.Proofs.YtglilddlhibogaaGreatDoor.W
open Go.RowKit Go.Proofs.YtglilddlhibogaaGreatDoor.P
theorem aoA(f:Nat→Val)(r:Val):CZ (upd f 0 r) 6=fun j=>if j=0 then r else if 1≤j∧j≤5 then Val.none else f j:=by
 funext j
 unfold CZ;by_cases h:j=0
 ·subst h;rw[dw bQ,dB rfl,upd_same]
 ·rw[dw h];by_cases h2:1≤j∧j≤5
  ·rw[dB bQ,dB h2]
  ·rw[dw bQ,dw h2,fB h]
theorem aEW(b:Nat)(told:Nat→Int)(time num st:Int)(out:Value)(M:dM)(w:World)(hI:Img w b 109 (kZ told time num st out M))(xk xn xc:Int)(hx:M.regs 1=⟨xk,xn,xc⟩)(h1:xk=1)(h2:xn<0) :
  Calls Tryz.prog 123 #[.pointer (some ⟨b,0,none⟩),aU 1] w fun e w'=>e=.returned (aU 0)∧Img w' b 109 (kZ told time num st out (M.call time 1).1)∧But b w w':=by
 exact awr
theorem aEX(b:Nat)(told:Nat→Int)(time num st:Int)(out:Value)(M:dM)(w:World)(hI:Img w b 109 (kZ told time num st out M))(xk xn xc:Int)(hx:M.regs 1=⟨xk,xn,xc⟩)(h1:xk=1)(h2:4≤xn) :
  Calls Tryz.prog 123 #[.pointer (some ⟨b,0,none⟩),aU 1] w fun e w'=>e=.returned (aU 0)∧Img w' b 109 (kZ told time num st out (M.call time 1).1)∧But b w w':=by
 exact awr
theorem aEY(b:Nat)(told:Nat→Int)(time num st:Int)(out:Value)(M:dM)(w:World)(hI:Img w b 109 (kZ told time num st out M))(xk xn xc:Int)(hx:M.regs 1=⟨xk,xn,xc⟩)(h1:xk=1)(h2:0≤xn∧xn<4) :
  Calls Tryz.prog 123 #[.pointer (some ⟨b,0,none⟩),aU 1] w fun e w'=>e=.returned (aU 0)∧Img w' b 109 (kZ told time num st out (M.call time 1).1)∧But b w w':=by
 refine atS ?_;intro HW0 hlt c0 c1 c2 f0 f1 f2 g0 g1 g2;have ft:w.cell? ⟨b,108,none⟩=some (aU time):=hI.cell 108 bQ;have hfin:(M.call time 1).1={ M with regs:=CZ (upd M.regs 0 ⟨4,0,xn⟩) 6}:=by
  rw[aoA];unfold dM.call;rw[hx];simp[Val.num,h1,h2]
 have HF:=bW hfin;have HI:=bW hI;have S0:=hI.Dp (r:=0) bQ ⟨1,0,0⟩ rfl rfl rfl;clear hI hx hfin;subst h1;obtain⟨h2,h3⟩:=h2;have HS0:=bW S0;clear S0;go_enter Tryz.func123,Tryz.ntmps123;go_wp2_with fail;go_region;all_goals go_wp2_with fail
 have K:=(HI.out.Dp (r:=0) bQ ⟨1,0,0⟩ rfl rfl rfl).Dp (r:=0) bQ ⟨4,0,xn⟩ rfl rfl rfl;dsimp only at K;rw[aqQ]at K;have KB:=(((((((But.refl b w).setCell (p:=⟨b,0,none⟩) (.inl rfl) (.int .u8 110)).setCell (p:=⟨b,1,none⟩) (.inl rfl) (aU 0)).setCell (p:=⟨b,2,none⟩) (.inl rfl) (aU 0)).setCell (p:=⟨b,0,none⟩) (.inl rfl) (.int .u8 99)).setCell (p:=⟨b,1,none⟩) (.inl rfl) (aU 0)).setCell (p:=⟨b,2,none⟩) (.inl rfl) (aU xn));generalize hW:World.drew (World.alloc (World.setCell _ _ _) _)=ws;have HS:Hid (Img ws b 109 (kZ told time num st out { M with regs:=upd M.regs 0 ⟨4,0,xn⟩})):=bW (by rw[←hW];exact(K.alloc _).drew);have VP:Hid (But b w ws):=bW (by rw[←hW];exact(KB.alloc _).drew);clear hW K KB f0 f1 f2 g0 g1 g2 ft c0 c1 c2;go_loopw [6] (fun i wr=>∃ k:Nat,1≤k∧k≤6∧i=aU k∧Img wr b 109 (kZ told time num st out { M with regs:=CZ (upd M.regs 0 ⟨4,0,xn⟩) k})∧But b w wr) (fun i _=>6-(intOf i).toNat)
 case atStart=>exact⟨1,by omega,by omega,rfl,by rw[acC];exact HS.out,VP.out⟩
 case round =>
  exact awt
theorem aEZ(b:Nat)(told:Nat→Int)(time num st:Int)(out:Value)(M:dM)(w:World)(hI:Img w b 109 (kZ told time num st out M))(xk xn xc:Int)(hx:M.regs 1=⟨xk,xn,xc⟩)  :
  Calls Tryz.prog 123 #[.pointer (some ⟨b,0,none⟩),aU 2] w fun e w'=>e=.returned (aU 0)∧Img w' b 109 (kZ told time num st out (M.call time 2).1)∧But b w w':=by
 refine atS ?_;intro HW0 hlt c0 c1 c2 f0 f1 f2 g0 g1 g2;have ft:w.cell? ⟨b,108,none⟩=some (aU time):=hI.cell 108 bQ;have hfin:(M.call time 2).1={ M with regs:=CZ (upd M.regs 0 ⟨1,time,0⟩) 6}:=by
  rw[aoA];unfold dM.call;rw[hx];simp[Val.num]
 have HF:=bW hfin;have HI:=bW hI;have S0:=hI.Dp (r:=0) bQ ⟨1,0,0⟩ rfl rfl rfl;clear hI hx hfin;have HS0:=bW S0;clear S0;go_enter Tryz.func123,Tryz.ntmps123;go_wp2_with fail;go_region;all_goals go_wp2_with fail
 have K:=((HI.out.Dp (r:=0) bQ ⟨1,0,0⟩ rfl rfl rfl).ay6 (r:=0) bQ time rfl);dsimp only at K;rw[aqQ,upd_same]at K;have KB:=((((But.refl b w).setCell (p:=⟨b,0,none⟩) (.inl rfl) (.int .u8 110)).setCell (p:=⟨b,1,none⟩) (.inl rfl) (aU 0)).setCell (p:=⟨b,2,none⟩) (.inl rfl) (aU 0)).setCell (p:=⟨b,1,none⟩) (.inl rfl) (aU time);generalize hW:World.drew (World.alloc (World.setCell _ _ _) _)=ws;have HS:Hid (Img ws b 109 (kZ told time num st out { M with regs:=upd M.regs 0 ⟨1,time,0⟩})):=bW (by rw[←hW];exact(K.alloc _).drew);have VP:Hid (But b w ws):=bW (by rw[←hW];exact(KB.alloc _).drew);clear hW K KB f0 f1 f2 g0 g1 g2 ft c0 c1 c2;go_loopw [6] (fun i wr=>∃ k:Nat,1≤k∧k≤6∧i=aU k∧Img wr b 109 (kZ told time num st out { M with regs:=CZ (upd M.regs 0 ⟨1,time,0⟩) k})∧But b w wr) (fun i _=>6-(intOf i).toNat)
 case atStart=>exact⟨1,by omega,by omega,rfl,by rw[acC];exact HS.out,VP.out⟩
 case round =>
  exact awt
theorem awl{w:World}{B T n:Nat}{v:Value}{xs:List Value}(h:w.ownsRow B T 1 v n xs):∃ og cap,v=.slice og n cap:=by
 exact aBa
theorem aE0(b:Nat)(told:Nat→Int)(time num st:Int)(M:dM)(og:Option Addr)(jM:Nat)(w:World)(hI:Img w b 109 (kZ told time num st (.slice og M.out.length jM) M))(xk xn xc:Int)(hx:M.regs 1=⟨xk,xn,xc⟩)(h1:xk=1)(hO:w.ownsRow (b+1) 2 1 (.slice og M.out.length jM) M.out.length (M.out.map (Value.int .i64))) :
  Calls Tryz.prog 123 #[.pointer (some ⟨b,0,none⟩),aU 3] w fun e w'=>e=.returned (aU 0)∧(∃ out',Img w' b 109 (kZ told time num st out' (M.call time 3).1)∧w'.ownsRow (b+1) 2 1 out' (M.call time 3).1.out.length ((M.call time 3).1.out.map (Value.int .i64)))∧Below b w w':=by
 refine atS ?_;intro HW0 hlt c0 c1 c2 f0 f1 f2 g0 g1 g2;have fo:w.cell? ⟨b,106,none⟩=some (.slice og M.out.length jM):=hI.cell 106 bQ;subst h1;have hfin:(M.call time 3).1={ M with regs:=CZ (upd M.regs 0 ⟨1,0,0⟩) 6,out:=if M.out.length<50 then M.out++[xn]else M.out}:=by
  rw[aoA];unfold dM.call;rw[hx];simp[Val.num]
 have HI:=bW hI;have HO:=bW hO;have K:=hI.Dp (r:=0) bQ ⟨1,0,0⟩ rfl rfl rfl;dsimp only at K;have KB:=((((But.refl b w).setCell (p:=⟨b,0,none⟩) (.inl rfl) (.int .u8 110)).setCell (p:=⟨b,1,none⟩) (.inl rfl) (aU 0)).setCell (p:=⟨b,2,none⟩) (.inl rfl) (aU 0));have OQ:=bW K;have HKB:=bW KB;clear hI hx K KB hO;by_cases hl:M.out.length<50
 ·have l1:(M.out.length:Int)<50:=bQ;rw[dB hl]at hfin;have HF:=bW hfin;clear hfin;go_enter Tryz.func123,Tryz.ntmps123;go_wp2_with fail;generalize hW:World.alloc (World.setCell _ _ _) _=wd;have K1:Img wd b 109 (kZ told time num st (.slice og M.out.length jM) { M with regs:=upd M.regs 0 ⟨1,0,0⟩}):=by rw[←hW];exact OQ.out.alloc _
  have B1:But b w wd:=by rw[←hW];exact HKB.out.alloc _
  have O1:wd.ownsRow (b+1) 2 1 (.slice og M.out.length jM) M.out.length (M.out.map (Value.int .i64)):=HO.out.kept B1.grown apS;have x1:wd.cell? ⟨w.heap.size,1,none⟩=some (aU xn):=qY;have z1:w.heap.size<wd.heap.size:=OC;have o1:wd.cell? ⟨b,106,none⟩=some (.slice og M.out.length jM):=K1.cell 106 bQ;clear f1;have f1:wd.frozen? ⟨b,106,none⟩=false:=K1.free 106 bQ;have zb:b<wd.heap.size:=bQ;have own:∀ g,(Value.slice og M.out.length jM).ownBlock=some g→b+1≤g∧g<wd.heap.size:=O1.lt;clear hW f0 f2 g0 g1 g2 fo c0 c1 c2;refine aAK ?_;intro NB NW hK1 hB1 hO1 anv;clear K1 B1 O1 own;obtain⟨i0,hi0,hz0,hz1,hz2⟩:=info_parts avv
  go_region_law (first|((refine step_append_lies _ iC _ _ _ iC (b+1) 2 i0 _ 1 8 Tryz.underlying94 hi0 hz0 hz1 hz2 rfl bQ (.slice og M.out.length jM) M.out.length (M.out.map (Value.int .i64)) iC ((hO1.out.alloc _).drew) ⟨wd.heap.size,0,none⟩ 1 1 [aU xn] iC iC (World.news_of_block (cs:=#[aU xn]) (t:=2) (fr:=(0,0)) (heap_alloc_new wd _)) aaK bQ JF bQ eU (wd.heap.size+1) dY ?_;intro gg cap w1 hown1 hgrow hat hlt1;have q0:w1.cell? ⟨b,106,none⟩=some (.slice og M.out.length jM):=aBN;have _q2:w1.cell? ⟨w.heap.size,1,none⟩=some (aU xn):=aBO;have K2:=(Img.drew (Img.alloc hK1.out _)).of_block (hgrow.block b eU NB.out);have Yo:=bW K2;clear K2;have HB2:=bW (Below.grown (((hB1.out.below bQ).alloc bQ _).drew) hgrow eU (fun g hg=>by have:=(anv.out g hg).1;omega));have HO2:=bW hown1;clear hown1;have q1:w1.frozen? ⟨b,106,none⟩=false:=aBK)))
  all_goals
   go_wp2_with fail;have HS:=bW (Yo.out.aHH (.slice (some ⟨gg,0,none⟩) (M.out.length+1) cap) (M.out++[xn]));have VP:=bW (HB2.out.setCell (p:=⟨b,106,none⟩) (Nat.le_refl _) (.slice (some ⟨gg,0,none⟩) (M.out.length+1) cap));have HOs:=bW (ownsRow_setCell_below (a:=⟨b,106,none⟩) HO2.out dY (.slice (some ⟨gg,0,none⟩) (M.out.length+1) cap));generalize World.setCell w1 _ _=ws at *;clear q0 q1 _q2 hat hlt1 hgrow Yo HB2 HO2 x1 o1 f1;dsimp only at HS;try simp only[List.map_append,List.map_cons,List.map_nil]at HOs
   go_loopw [6] (fun i wr=>∃ k:Nat,1≤k∧k≤6∧i=aU k∧Img wr b 109 (kZ told time num st (.slice (some ⟨gg,0,none⟩) (M.out.length+1) cap) { M with regs:=CZ (upd M.regs 0 ⟨1,0,0⟩) k,out:=M.out++[xn]})∧Below b w wr∧wr.ownsRow (b+1) 2 1 (.slice (some ⟨gg,0,none⟩) (M.out.length+1) cap) (M.out.length+1) (List.map (Value.int .i64) (M.out++[xn]))) (fun i _=>6-(intOf i).toNat)
   case atStart=>exact⟨1,by omega,by omega,rfl,by rw[acC];exact HS.out,VP.out,by rw[List.map_append];exact HOs.out⟩
   case round =>
    obtain⟨k,hk1,hk6,rfl,hI,hB,hO⟩:=hrel;by_cases h:k≤5
    ·exact aww
    ·obtain rfl:k=6:=bQ;have HI1:=bW hI;have HB1:=bW hB;have HO1:=bW hO;clear hI hB hO;go_wp2_with fail;go_ret
     refine⟨rfl,⟨.slice (some ⟨gg,0,none⟩) (M.out.length+1) cap,?_,?_⟩,HB1.out⟩
     ·rw[HF.out];exact HI1.out
     ·exact aAW
 ·have l1:¬(M.out.length:Int)<50:=bQ;rw[dw hl]at hfin;have HF:=bW hfin;clear hfin;go_enter Tryz.func123,Tryz.ntmps123;go_wp2_with fail;generalize hW:World.alloc (World.setCell _ _ _) _=ws;have K1:Img ws b 109 (kZ told time num st (.slice og M.out.length jM) { M with regs:=upd M.regs 0 ⟨1,0,0⟩}):=by rw[←hW];exact OQ.out.alloc _
  have B1:But b w ws:=by rw[←hW];exact HKB.out.alloc _
  have O1:ws.ownsRow (b+1) 2 1 (.slice og M.out.length jM) M.out.length (M.out.map (Value.int .i64)):=HO.out.kept B1.grown apS;have HS:=bW K1;have VP:=bW (B1.below bQ);have HOs:=bW O1;clear hW K1 B1 O1 f0 f1 f2 g0 g1 g2 fo c0 c1 c2;go_loopw [6] (fun i wr=>∃ k:Nat,1≤k∧k≤6∧i=aU k∧Img wr b 109 (kZ told time num st (.slice og M.out.length jM) { M with regs:=CZ (upd M.regs 0 ⟨1,0,0⟩) k,out:=M.out})∧Below b w wr∧wr.ownsRow (b+1) 2 1 (.slice og M.out.length jM) (M.out.length) (List.map (Value.int .i64) (M.out))) (fun i _=>6-(intOf i).toNat)
  case atStart=>exact⟨1,by omega,by omega,rfl,by rw[acC];exact HS.out,VP.out,HOs.out⟩
  case round =>
   obtain⟨k,hk1,hk6,rfl,hI,hB,hO⟩:=hrel;by_cases h:k≤5
   ·exact aww
   ·obtain rfl:k=6:=bQ;have HI1:=bW hI;have HB1:=bW hB;have HO1:=bW hO;clear hI hB hO;go_wp2_with fail;go_ret
    refine⟨rfl,⟨.slice og M.out.length jM,?_,?_⟩,HB1.out⟩
    ·rw[HF.out];exact HI1.out
    ·exact aAW
def vW(w:World)(b:Nat)(told:Nat→Int)(time num st:Int)(M:dM):Prop :=
 ∃ out,Img w b 109 (kZ told time num st out M)∧w.ownsRow (b+1) 2 1 out M.out.length (M.out.map (Value.int .i64))
theorem vW.ge{w:World}{b:Nat}{told:Nat→Int}{time num st:Int}{M:dM}(h:vW w b told time num st M):b<w.heap.size:=by
 obtain⟨out,hI,-⟩:=h;exact hI.lt bQ
theorem vW.but{w w':World}{b:Nat}{told:Nat→Int}{time num' st':Int}{M M':dM}{out:Value}(hO:w.ownsRow (b+1) 2 1 out M.out.length (M.out.map (Value.int .i64)))(hB:But b w w')(hI:Img w' b 109 (kZ told time num' st' out M'))(ho:M'.out=M.out):vW w' b told time num' st' M':=by
 exact awi
theorem vW.later{w w':World}{b:Nat}{told:Nat→Int}{time num st:Int}{M:dM}(h:vW w b told time num st M)(hb:Below w.heap.size w w'):vW w' b told time num st M:=by
 obtain⟨out,hI,hO⟩:=h;exact vW.but hO (But.of hb) (hI.later hb (hI.lt bQ)) rfl
theorem aEU(b:Nat)(told:Nat→Int)(time num st:Int)(M:dM)(w:World)(hM:vW w b told time num st M)(hv:oJ (M.regs 1))(n:Int)(hn:n=1∨n=2∨n=3) :
  Calls Tryz.prog 123 #[.pointer (some ⟨b,0,none⟩),aU n] w fun e w'=>e=.returned (aU (M.call time n).2)∧vW w' b told time num st (M.call time n).1∧Below b w w':=by
 have hlt:=hM.ge;have hM0:=hM;obtain⟨out,hI,hO⟩:=hM;by_cases h:n≠2∧(M.regs 1).kind≠1
 ·have e:M.call time n=(M,if(M.regs 1).kind=0 then 8 else 1):=by
   exact awj
  rw[e];exact(aEV b told time num st out M w hI n h.1 hv h.2).mono fun e w' ⟨he,hb⟩=>⟨he,hM0.later hb,hb.mono (Nat.le_of_lt hlt)⟩
 ·refine awk ?_;intro e0 eo;rcases hn with rfl|rfl|rfl
  ·have k1:(M.regs 1).kind=1:=bQ;by_cases r0:(M.regs 1).n<0
   ·exact(aEW b told time num st out M w hI _ _ _ rfl k1 r0).mono fun e w' ⟨he,hi,hb⟩=>⟨he,vW.but hO hb hi (eo dS),hb.below (Nat.le_of_lt hlt)⟩
   ·by_cases r4:4≤(M.regs 1).n
    ·exact(aEX b told time num st out M w hI _ _ _ rfl k1 r4).mono fun e w' ⟨he,hi,hb⟩=>⟨he,vW.but hO hb hi (eo dS),hb.below (Nat.le_of_lt hlt)⟩
    ·have r5:0≤(M.regs 1).n∧(M.regs 1).n<4:=bQ;exact(aEY b told time num st out M w hI _ _ _ rfl k1 r5).mono fun e w' ⟨he,hi,hb⟩=>⟨he,vW.but hO hb hi (eo dS),hb.below (Nat.le_of_lt hlt)⟩
  ·exact(aEZ b told time num st out M w hI _ _ _ rfl).mono fun e w' ⟨he,hi,hb⟩=>⟨he,vW.but hO hb hi (eo dS),hb.below (Nat.le_of_lt hlt)⟩
  ·have k1:(M.regs 1).kind=1:=bQ;obtain⟨og,jM,rfl⟩:=awl hO;exact(aE0 b told time num st M og jM w hI _ _ _ rfl k1 hO).mono fun e w' ⟨he,hi,hb⟩=>⟨he,hi,hb⟩
end Go.Proofs.YtglilddlhibogaaGreatDoor.W
namespace Go.Proofs.YtglilddlhibogaaGreatDoor.W
open Go.RowKit
theorem aMv(d:Nat)(a b c e:Int)(w:World):(Op.equalIn (d+2) 53 (.agg #[aU a,aU b,aU c,aU e]) (.agg #[aU a,aU b,aU c,aU e])).run Tryz.prog w=.ok true w:=by
 have h1:∀ w,(sizeOf 2).run Tryz.prog w=.ok 1 w:=fun w=>by kernel_rfl
 have h2:∀ w,(isAgg 2).run Tryz.prog w=.ok false w:=fun w=>by kernel_rfl
 have h3:∀ (x:Int) (w:World),(Op.equalIn (d+1) 2 (aU x) (aU x)).run Tryz.prog w=.ok true w:=fun x w=>by
  rw[run_equalIn_int (P:=Tryz.prog) w d 2 .i64 .i64 x x Tryz.underlying2];simp
 simp only[Op.equalIn,Sem.run_bind,run_underlying Tryz.underlying53,Result.andThen_ok,h1];exact aBf
theorem aMw(d:Nat)(c0 c1 c2 c3 c4 c5 c6 c7 c8 c9 c10 c11 c12 c13 c14 c15:Int)(w:World):(Op.equalIn (d+3) 55 (.agg #[aU c0,aU c1,aU c2,aU c3,aU c4,aU c5,aU c6,aU c7,aU c8,aU c9,aU c10,aU c11,aU c12,aU c13,aU c14,aU c15]) (.agg #[aU c0,aU c1,aU c2,aU c3,aU c4,aU c5,aU c6,aU c7,aU c8,aU c9,aU c10,aU c11,aU c12,aU c13,aU c14,aU c15])).run Tryz.prog w=.ok true w:=by
 have h1:∀ w,(sizeOf 53).run Tryz.prog w=.ok 4 w:=fun w=>by kernel_rfl
 have h2:∀ w,(isAgg 53).run Tryz.prog w=.ok true w:=fun w=>by kernel_rfl
 have h3:=fun(a b c e:Int) (w:World)=>aMv d a b c e w;unfold Op.equalIn;simp only[Sem.run_bind,run_underlying Tryz.underlying55,Result.andThen_ok,h1];exact aBf
theorem azY(c0 c1 c2 c3 c4 c5 c6 c7 c8 c9 c10 c11 c12 c13 c14 c15:Int)(w:World):(Op.equalIn 10000 55 (.agg #[aU c0,aU c1,aU c2,aU c3,aU c4,aU c5,aU c6,aU c7,aU c8,aU c9,aU c10,aU c11,aU c12,aU c13,aU c14,aU c15]) (.agg #[aU c0,aU c1,aU c2,aU c3,aU c4,aU c5,aU c6,aU c7,aU c8,aU c9,aU c10,aU c11,aU c12,aU c13,aU c14,aU c15])).run Tryz.prog w=.ok true w:=aMw 9997 c0 c1 c2 c3 c4 c5 c6 c7 c8 c9 c10 c11 c12 c13 c14 c15 w
end Go.Proofs.YtglilddlhibogaaGreatDoor.W
