/- A part of the proof; each theorem states its conditions. -/
import Derived.Test.YtglilddlhibogaaGreatDoorRef6
set_option linter.unusedSimpArgs false
set_option linter.unusedVariables false
set_option maxRecDepth 100000
set_option maxHeartbeats 100000000
namespace Go.Proofs.YtglilddlhibogaaGreatDoor.W
open Go.RowKit Go.Proofs.YtglilddlhibogaaGreatDoor.P
theorem aB3{w:World}{C:Nat}{c:HC}{v:Value}{pl0:List RP}(hc:nM w C c v pl0)(ok:c.Ok)(told:Nat→Int)(time:Int)(ht:∀ r,In64 (told r))(um:In64 time) :
  Calls Tryz.prog 31 #[.pointer (some ⟨C,0,none⟩),.agg (t8 told).toArray,aU time] w fun e w'=>∃ out jQ,e=.returned (.agg #[aU (hrun told time c.l .zero).2.oW,aU (hrun told time c.l .zero).2.num,out,aU (hrun told time c.l .zero).2.steps]) ∧
   w'.ownsRow w.heap.size 2 1 out (hrun told time c.l .zero).2.out.length ((hrun told time c.l .zero).2.out.map (Value.int .i64))∧nM w' C ⟨(hrun told time c.l .zero).1,c.next⟩ v jQ∧dQ (iT C pl0) w w'∧∀ b,iT C jQ b→iT C pl0 b:=by
 obtain⟨og,cap,hv,hcl⟩:=hc.form;subst hv;generalize hn:pl0.length=n at hc ⊢;have c0:=hc.cell0;have hDl:C<w.heap.size:=hc.typed.lt;have hs8:n≤8:=by have:=ok.short;have:=congrArg List.length hc.l;rw[List.length_map]at this;omega
 unfold t8;have uw:=bW hc;have Yz:=bW ok;have HN:=bW hn;have U5:=bW hcl;have HT:=bW ht;have HTM:=bW um;clear hc hn ok hcl ht um;go_enter Tryz.func31,Tryz.ntmps31;go_upto_region 2 with fail;refine az2 ?_;intro w1 hW hb1 hs1 IT IR IS;have TR:Typed w1 (w.heap.size+1) 99:=hW▸anF ⟨_,by simpa using heap_alloc_new (World.alloc w _) _⟩ ((Below.refl _ _).alloc (Nat.le_refl _) _);have TS:Typed w1 (w.heap.size+1+1) 99:=hW▸⟨_,by simpa using heap_alloc_new (World.alloc (World.alloc w _) _) _⟩;have c01:=(hb1.cell (p:=⟨C,0,none⟩) hDl).trans c0;have HF1:=bW (dQ.of hb1 (M:=iT C pl0));have au3:=bW (show agc w w1 C c told time (.slice og n cap) pl0 0 c.l .zero (.slice none 0 0) pl0 w1 from
  ⟨Nat.zero_le _,rfl,.inl ⟨rfl,rfl,by simp,rfl⟩,uw.out.later hb1,fun _ h=>h,IS,World.ownsRow_nil _ _ _ _,Nat.le_refl _,by unfold Sd.zero;simp,IT,IR,TS,TR,HF1.out,Nat.le_refl _⟩)
 clear hW IT IR IS TR TS c0 hb1;go_wp2_with fail;go_loopw [17] (fun y wr=>∃ (i:Nat) (L:List HP) (s:Sd) (out:Value) (pl:List RP),y=aU i∧agc w w1 C c told time (.slice og n cap) pl0 i L s out pl wr) (fun y _=>n-(intOf y).toNat)
 case atStart=>exact⟨0,c.l,.zero,_,_,rfl,au3.out⟩
 case round =>
  obtain⟨i,L,s,out,pl,rfl,hI⟩:=hrel;obtain⟨U9,Va,rfl⟩:=pI hI.out;have HI:=bW hI;have hin:i≤n:=HN.out▸hI.le;have hlen:pl.length=n:=HN.out▸hI.len;have hLn:L.length=n:=by have:=congrArg List.length hI.chain.l;rw[List.length_map]at this;exact this.symm.trans hlen
  clear hI;refine aBe ?_;intro k2 k3 r0 r1 r2 r3 f0 f1 f2 f3;have k0:=HI.out.said.cell 0 bQ;have k1:=HI.out.said.cell 1 bQ;by_cases h:i<n
  ·have hk1:(i:Int)<n:=bQ;obtain⟨x,hx⟩:∃ x,pl[i]?=some x:=⟨_,List.getElem?_eq_getElem bQ⟩;obtain⟨og',cap',hv',hcl'⟩:=HI.out.chain.form;obtain⟨g,rfl,zg,qg⟩:∃ g,og=some ⟨g,0,none⟩∧g<wr.heap.size∧wr.cell? ⟨g,i,none⟩=some (wR x):=by
    obtain⟨g,e,h1,h2⟩:=hcl' i x hx;exact⟨g,by injection hv' with a;rw[a,e],h1,h2⟩
   unfold wR at qg;clear hv';by_cases hby:s.oW=0
   ·have k0':wr.cell? ⟨w.heap.size+1+1,0,none⟩=some (aU 0):=by rw[←hby];exact k0
    clear k0;obtain⟨hnum,Gx,hdr⟩:s.num=0∧hrun told time c.l .zero=(L.take i++(hrun told time (L.drop i) s).1,(hrun told time (L.drop i) s).2)∧L.drop i=c.l.drop i:=by
     rcases HI.out.state with ⟨-,e⟩|⟨e,-⟩
     ·exact e
     ·exact absurd hby e
    have hxL:L[i]?=some x.1:=(congrArg (fun l:List HP=>l[i]?) HI.out.chain.l).symm.trans (by show(pl.map (·.1))[i]?=_;rw[List.getElem?_map,hx];rfl);have hmem:x.1∈c.l:=by
     have h1:(L.drop i)[0]?=some x.1:=by rw[List.getElem?_drop,Nat.add_zero];exact hxL
     rw[hdr]at h1;exact List.mem_of_mem_drop (List.mem_of_getElem? h1)
    obtain⟨xp,xb,xv⟩:=x;have hpx:=HI.out.chain.LP _ (List.mem_of_getElem? hx);obtain⟨Ey,Ez,hxv,hcc,hprog⟩:=hpx.prog;simp only at hxv hcc hprog hmem hxL qg;subst hxv;obtain⟨M,num,st,hR,aB4⟩:=ayK (Yz.out.good _ hmem) (Yz.out.nums _ hmem) HT.out (Yz.out.cells _ hmem) HTM.out;have RUN:=fun W (hb:Below wr.heap.size wr W)=>aH8 Ey xp.code.length Ez (nth xp.code) hcc told xp.cells time W (hprog.later hb) (fun j _=>Yz.out.nums _ hmem j) HT.out (Yz.out.cells _ hmem) HTM.out;rw[aB5,hR]at RUN;unfold agA agB at RUN;have hwr:w.heap.size+3≤wr.heap.size:=by have:=HI.out.later;omega
    have zT:w.heap.size<wr.heap.size:=bQ;have zx:xb<wr.heap.size:=hpx.typed.lt;have wV:=bW RUN;have HRR:=bW hR;have HPX:=bW hpx;have HX:=bW hx;have HMI:=bW aB4;have HXL:=bW hxL;have HRN:=bW Gx;have HDR:=bW hdr;have HLEN:=bW hlen;have hlow:1≤xp.id:=(Yz.out.low _ hmem).1;clear hLn hlen RUN hR hpx hx aB4 hxL hmem hcl' hprog Gx hdr;go_upto_region 6 with fail;go_cut [10] (fun y W=>∃ (m:Nat) (yG:Option Addr) (cap5:Nat),y=.pointer (some ⟨m,0,none⟩)∧wr.heap.size≤m∧P.Img W m 19 (fun j=>(YF num M.cells (.slice yG M.out.length cap5) st).getD j undef)∧Below wr.heap.size wr W∧∃ B,W.ownsRow B 2 1 (.slice yG M.out.length cap5) M.out.length (M.out.map (Value.int .i64)))
    case first =>
     have S0:=aB6 HI.out.told HPX.out;simp only at S0;go_region_held3 (fun W=>W.cell? ⟨w.heap.size,0,none⟩=some (aU (told 0))∧W.cell? ⟨w.heap.size,1,none⟩=some (aU (told 1))∧W.cell? ⟨w.heap.size,2,none⟩=some (aU (told 2))∧W.cell? ⟨w.heap.size,3,none⟩=some (aU (told 3))∧W.cell? ⟨w.heap.size,4,none⟩=some (aU (told 4))∧W.cell? ⟨w.heap.size,5,none⟩=some (aU (told 5))∧W.cell? ⟨w.heap.size,6,none⟩=some (aU (told 6))∧W.cell? ⟨w.heap.size,7,none⟩=some (aU (told 7)) ∧
      W.cell? ⟨xb,2,none⟩=some (.slice Ey xp.code.length Ez)∧W.cell? ⟨xb,3,none⟩=some (aU (xp.cells 0))∧W.cell? ⟨xb,4,none⟩=some (aU (xp.cells 1))∧W.cell? ⟨xb,5,none⟩=some (aU (xp.cells 2))∧W.cell? ⟨xb,6,none⟩=some (aU (xp.cells 3))∧W.cell? ⟨xb,7,none⟩=some (aU (xp.cells 4))∧W.cell? ⟨xb,8,none⟩=some (aU (xp.cells 5))∧W.cell? ⟨xb,9,none⟩=some (aU (xp.cells 6))∧W.cell? ⟨xb,10,none⟩=some (aU (xp.cells 7)) ∧
      W.cell? ⟨xb,11,none⟩=some (aU (xp.cells 8))∧W.cell? ⟨xb,12,none⟩=some (aU (xp.cells 9))∧W.cell? ⟨xb,13,none⟩=some (aU (xp.cells 10))∧W.cell? ⟨xb,14,none⟩=some (aU (xp.cells 11))∧W.cell? ⟨xb,15,none⟩=some (aU (xp.cells 12))∧W.cell? ⟨xb,16,none⟩=some (aU (xp.cells 13))∧W.cell? ⟨xb,17,none⟩=some (aU (xp.cells 14))∧W.cell? ⟨xb,18,none⟩=some (aU (xp.cells 15)))
      (first|exact aB6 (HI.out.told.later (B:=wr.heap.size) ac5 zT) (HPX.out.later ac5))
      (first
       |(go_at_call 53;refine(wV.out _ ?_).mono ?_;(repeat' (first|with_reducible exact Below.refl _ _|with_reducible refine Below.drew ?_|with_reducible refine Below.alloc ?_ ?_ _|(simp;done)|omega));rintro e w5 ⟨⟨v5,er5,rfl,Oj⟩,hb5⟩;obtain⟨ro,hv5,hf5,B0,vZ⟩:=Oj;obtain⟨yG,cap5,rfl⟩:=pI vZ;obtain⟨arr,rfl,harr⟩:∃ arr:Array Value,v5=.agg arr∧arr.toList=YF num M.cells (.slice yG M.out.length cap5) st:=⟨_,hv5,rfl⟩;obtain⟨Vb,rfl,aqy⟩:∃ arr:Array Value,er5=.agg arr∧arr.toList=[aU 0,aU (-1)]:=⟨_,hf5,rfl⟩;have EX:=bW harr;have akx:=bW aqy;have hsz:arr.size=19:=ant;have hsz2:Vb.size=2:=(by rw[←Array.length_toList,aqy];rfl);have hone:∀ v∈arr.toList,v.oneCell'=true:=auL;have aPp:∀ v∈Vb.toList,v.oneCell'=true:=(by rw[aqy];intro v hv;simp only[List.mem_cons,List.not_mem_nil,or_false]at hv;rcases hv with rfl|rfl<;>rfl);clear harr hv5 aqy hf5;(have hb:Below wr.heap.size wr w5:=Below.trans am7 (hb5.mono anr));have yg:=bW hb;have ZG:=bW (HI.out.told.later hb zT);have Ii:=bW (HPX.out.later hb);have yj:=bW vZ;have qx:=bW hb5;clear hb5 hb vZ;have zs5:=yg.out.size;(first|(have EC:Hid (Below (wr).drew.heap.size (wr).drew w5):=qx;obtain⟨ha1,ha2,ha3⟩:=aky (wr:=wr) (W:=(w5.alloc (.cells #[aU 0,aU 0,aU 0,aU 0,aU 0,aU 0,aU 0,aU 0,aU 0,aU 0,aU 0,aU 0,aU 0,aU 0,aU 0,aU 0,aU 0,.slice none 0 0,aU 0] 147)).alloc (.cells #[aU 0,aU 0] 63)) (m:=w5.heap.size) (k:=w5.heap.size+1) ac5 XY XY (Tz (t:=_) (akz w5 _ _) rfl) (Tz (t:=_) (akA w5 _ _) rfl) ap9 EX.out akx.out ((yj.out.alloc _).alloc _) (fun b hb=>⟨ake,ake⟩);obtain⟨hb1,hb2,hb3⟩:=aky (wr:=wr) (W:=(w5.alloc (.cells #[aU 0,aU 0] 63)).alloc (.cells #[aU 0,aU 0,aU 0,aU 0,aU 0,aU 0,aU 0,aU 0,aU 0,aU 0,aU 0,aU 0,aU 0,aU 0,aU 0,aU 0,aU 0,.slice none 0 0,aU 0] 147)) (m:=w5.heap.size+1) (k:=w5.heap.size) ac5 XY XY (Tz (t:=_) (akA w5 _ _) rfl) (Tz (t:=_) (akz w5 _ _) rfl) ap9 EX.out akx.out ((yj.out.alloc _).alloc _) (fun b hb=>⟨ake,ake⟩))|(have EC:Hid (Below (World.alloc wr (.cells #[aU 0,aU 0,aU 0,aU 0,aU 0,aU 0,aU 0,aU 0,aU 0,aU 0,aU 0,aU 0,aU 0,aU 0,aU 0,aU 0,aU 0,.slice none 0 0,aU 0] 147)).drew.heap.size (World.alloc wr (.cells #[aU 0,aU 0,aU 0,aU 0,aU 0,aU 0,aU 0,aU 0,aU 0,aU 0,aU 0,aU 0,aU 0,aU 0,aU 0,aU 0,aU 0,.slice none 0 0,aU 0] 147)).drew w5):=qx;obtain⟨hc1,hc2,hc3⟩:=aky (wr:=wr) (W:=w5.alloc (.cells #[aU 0,aU 0] 63)) (m:=wr.heap.size) (k:=w5.heap.size) ac5 XY XY (Tz (t:=_) ((Below.heap_alloc w5 (.cells #[aU 0,aU 0] 63) wr.heap.size (Nat.lt_of_lt_of_le dY EC.out.size)).trans ((EC.out.block wr.heap.size dY).trans (heap_alloc_new wr (.cells #[aU 0,aU 0,aU 0,aU 0,aU 0,aU 0,aU 0,aU 0,aU 0,aU 0,aU 0,aU 0,aU 0,aU 0,aU 0,aU 0,aU 0,.slice none 0 0,aU 0] 147)))) rfl) (Tz (t:=_) (heap_alloc_new w5 _) rfl) (Nat.ne_of_lt (Nat.lt_of_lt_of_le dY EC.out.size)) EX.out akx.out (yj.out.alloc _) (fun b hb=>⟨(((kD yj.out b hb).ne (show Typed w5 (wr.heap.size) 147 from⟨_,(EC.out.block wr.heap.size dY).trans (heap_alloc_new wr (.cells #[aU 0,aU 0,aU 0,aU 0,aU 0,aU 0,aU 0,aU 0,aU 0,aU 0,aU 0,aU 0,aU 0,aU 0,aU 0,aU 0,aU 0,.slice none 0 0,aU 0] 147))⟩) dS)),ake⟩))|(have EC:Hid (Below (World.alloc wr (.cells #[aU 0,aU 0] 63)).drew.heap.size (World.alloc wr (.cells #[aU 0,aU 0] 63)).drew w5):=qx;obtain⟨hd1,hd2,hd3⟩:=aky (wr:=wr) (W:=w5.alloc (.cells #[aU 0,aU 0,aU 0,aU 0,aU 0,aU 0,aU 0,aU 0,aU 0,aU 0,aU 0,aU 0,aU 0,aU 0,aU 0,aU 0,aU 0,.slice none 0 0,aU 0] 147)) (m:=w5.heap.size) (k:=wr.heap.size) ac5 XY XY (Tz (t:=_) (heap_alloc_new w5 _) rfl) (Tz (t:=_) ((Below.heap_alloc w5 (.cells #[aU 0,aU 0,aU 0,aU 0,aU 0,aU 0,aU 0,aU 0,aU 0,aU 0,aU 0,aU 0,aU 0,aU 0,aU 0,aU 0,aU 0,.slice none 0 0,aU 0] 147) wr.heap.size (Nat.lt_of_lt_of_le dY EC.out.size)).trans ((EC.out.block wr.heap.size dY).trans (heap_alloc_new wr (.cells #[aU 0,aU 0] 63)))) rfl) (Nat.ne_of_gt (Nat.lt_of_lt_of_le dY EC.out.size)) EX.out akx.out (yj.out.alloc _) (fun b hb=>⟨ake,(((kD yj.out b hb).ne (show Typed w5 (wr.heap.size) 63 from⟨_,(EC.out.block wr.heap.size dY).trans (heap_alloc_new wr (.cells #[aU 0,aU 0] 63))⟩) dS))⟩))|(have EC:Hid (Below (World.alloc (World.alloc wr (.cells #[aU 0,aU 0,aU 0,aU 0,aU 0,aU 0,aU 0,aU 0,aU 0,aU 0,aU 0,aU 0,aU 0,aU 0,aU 0,aU 0,aU 0,.slice none 0 0,aU 0] 147)) (.cells #[aU 0,aU 0] 63)).drew.heap.size (World.alloc (World.alloc wr (.cells #[aU 0,aU 0,aU 0,aU 0,aU 0,aU 0,aU 0,aU 0,aU 0,aU 0,aU 0,aU 0,aU 0,aU 0,aU 0,aU 0,aU 0,.slice none 0 0,aU 0] 147)) (.cells #[aU 0,aU 0] 63)).drew w5):=qx;obtain⟨he1,he2,he3⟩:=aky (wr:=wr) (W:=w5) (m:=wr.heap.size) (k:=wr.heap.size+1) ac5 XY XY (Tz (t:=_) ((EC.out.block wr.heap.size eU).trans (akz wr (.cells #[aU 0,aU 0,aU 0,aU 0,aU 0,aU 0,aU 0,aU 0,aU 0,aU 0,aU 0,aU 0,aU 0,aU 0,aU 0,aU 0,aU 0,.slice none 0 0,aU 0] 147) (.cells #[aU 0,aU 0] 63))) rfl) (Tz (t:=_) ((EC.out.block (wr.heap.size+1) dY).trans (akA wr (.cells #[aU 0,aU 0,aU 0,aU 0,aU 0,aU 0,aU 0,aU 0,aU 0,aU 0,aU 0,aU 0,aU 0,aU 0,aU 0,aU 0,aU 0,.slice none 0 0,aU 0] 147) (.cells #[aU 0,aU 0] 63))) rfl) ap9 EX.out akx.out yj.out (fun b hb=>⟨(((kD yj.out b hb).ne (show Typed w5 (wr.heap.size) 147 from⟨_,(EC.out.block wr.heap.size eU).trans (akz wr (.cells #[aU 0,aU 0,aU 0,aU 0,aU 0,aU 0,aU 0,aU 0,aU 0,aU 0,aU 0,aU 0,aU 0,aU 0,aU 0,aU 0,aU 0,.slice none 0 0,aU 0] 147) (.cells #[aU 0,aU 0] 63))⟩) dS)),(((kD yj.out b hb).ne (show Typed w5 (wr.heap.size+1) 63 from⟨_,(EC.out.block (wr.heap.size+1) dY).trans (akA wr (.cells #[aU 0,aU 0,aU 0,aU 0,aU 0,aU 0,aU 0,aU 0,aU 0,aU 0,aU 0,aU 0,aU 0,aU 0,aU 0,aU 0,aU 0,.slice none 0 0,aU 0] 147) (.cells #[aU 0,aU 0] 63))⟩) dS))⟩))|(have EC:Hid (Below (World.alloc (World.alloc wr (.cells #[aU 0,aU 0] 63)) (.cells #[aU 0,aU 0,aU 0,aU 0,aU 0,aU 0,aU 0,aU 0,aU 0,aU 0,aU 0,aU 0,aU 0,aU 0,aU 0,aU 0,aU 0,.slice none 0 0,aU 0] 147)).drew.heap.size (World.alloc (World.alloc wr (.cells #[aU 0,aU 0] 63)) (.cells #[aU 0,aU 0,aU 0,aU 0,aU 0,aU 0,aU 0,aU 0,aU 0,aU 0,aU 0,aU 0,aU 0,aU 0,aU 0,aU 0,aU 0,.slice none 0 0,aU 0] 147)).drew w5):=qx;obtain⟨hf1,hf2,hf3⟩:=aky (wr:=wr) (W:=w5) (m:=wr.heap.size+1) (k:=wr.heap.size) ac5 XY XY (Tz (t:=_) ((EC.out.block (wr.heap.size+1) dY).trans (akA wr (.cells #[aU 0,aU 0] 63) (.cells #[aU 0,aU 0,aU 0,aU 0,aU 0,aU 0,aU 0,aU 0,aU 0,aU 0,aU 0,aU 0,aU 0,aU 0,aU 0,aU 0,aU 0,.slice none 0 0,aU 0] 147))) rfl) (Tz (t:=_) ((EC.out.block wr.heap.size eU).trans (akz wr (.cells #[aU 0,aU 0] 63) (.cells #[aU 0,aU 0,aU 0,aU 0,aU 0,aU 0,aU 0,aU 0,aU 0,aU 0,aU 0,aU 0,aU 0,aU 0,aU 0,aU 0,aU 0,.slice none 0 0,aU 0] 147))) rfl) ap9 EX.out akx.out yj.out (fun b hb=>⟨(((kD yj.out b hb).ne (show Typed w5 (wr.heap.size+1) 147 from⟨_,(EC.out.block (wr.heap.size+1) dY).trans (akA wr (.cells #[aU 0,aU 0] 63) (.cells #[aU 0,aU 0,aU 0,aU 0,aU 0,aU 0,aU 0,aU 0,aU 0,aU 0,aU 0,aU 0,aU 0,aU 0,aU 0,aU 0,aU 0,.slice none 0 0,aU 0] 147))⟩) dS)),(((kD yj.out b hb).ne (show Typed w5 (wr.heap.size) 63 from⟨_,(EC.out.block wr.heap.size eU).trans (akz wr (.cells #[aU 0,aU 0] 63) (.cells #[aU 0,aU 0,aU 0,aU 0,aU 0,aU 0,aU 0,aU 0,aU 0,aU 0,aU 0,aU 0,aU 0,aU 0,aU 0,aU 0,aU 0,.slice none 0 0,aU 0] 147))⟩) dS))⟩)))))
     all_goals (go_wp2_with fail;go_meet;go_light;first|exact ha3.out|exact hb3.out|exact hc3.out|exact hd3.out|exact he3.out|exact hf3.out)
    case rest =>
     obtain⟨m,yG,cap5,rfl,hm,IM,KU,B0,vZ⟩:=hcut;obtain⟨wx,hwx⟩:∃ x,x=wc:=⟨_,rfl⟩;subst hwx;refine aBb ?_;intro m0 m17 m18;have hrg:=aJq IM;have hzx:=KU.size;have YH:=bW hrg;have HCx:=bW (HI.out.chain.fG (dQ.of KU (M:=fun _=>False)) (fun _ _ h=>h) (fun _ _ h=>h) (fun _ _ h=>h));have HPx:=bW (HCx.out.LP _ (List.mem_of_getElem? HX.out));have au4:=HPx.out.aJr;simp only[aaP]at au4;have ZH:=bW KU;have LM:=bW IM;have Ij:=bW vZ;have au5:=aB7 (P:=Tryz.prog) (w:=wx) (b:=xb) (o:=3) (vs:=lV M.cells) au4 (aqz _);clear hrg KU IM vZ;clear au4;go_upto_region 8 with (first
      |(with_reducible refine wpList_load_row iV 55 (.tmp 39) rfl m 1 iV (lV M.cells) _ YH.out Tryz.underlying55 rfl (anG _) ?_))
     clear au5;have HCy:=bW (azw (c':=⟨L.set i { xp with cells:=M.cells},c.next⟩) HCx.out HX.out (DY xb (lV M.cells) 3 wx) (y:=(({ xp with cells:=M.cells}:HP),xb,.slice Ey xp.code.length Ez)) rfl (aJs HPx.out M.cells) rfl rfl);have tm:Typed wx xb 59:=HPx.out.typed;have agd:=bW (QC (g:=xb) (o:=3) (vs:=lV M.cells) (HI.out.said.later ZH.out bQ) ((anF HI.out.au6 ZH.out).ne tm dS));have agf:=bW (QC (g:=xb) (o:=3) (vs:=lV M.cells) LM.out bQ);have anP:=bW (ED HI.out.out ZH.out);have X3:=bW ((DY xb (lV M.cells) 3 wx).row anP.out fun b hb e=>(kD anP.out b hb).ne (e▸tm) dS rfl);have anQ:=bW ((DY xb (lV M.cells) 3 wx).row Ij.out fun b hb e=>(kD Ij.out b hb).ne (e▸tm) dS rfl);have HFy:=bW (show dQ (fun b=>b=xb) wr (wx.setCells xb 3 (lV M.cells))from(dQ.of ZH.out).trans (DY xb (lV M.cells) 3 wx));have hne1:¬w.heap.size+1+1=xb:=HI.out.au6.ne (HPX.out.typed) dS;have hne2:¬w.heap.size+1=xb:=HI.out.resT.ne (HPX.out.typed) dS;have TSy:=(anF HI.out.au6 ZH.out).fG (DY xb (lV M.cells) 3 wx) hne1;have TRy:=(anF HI.out.resT ZH.out).fG (DY xb (lV M.cells) 3 wx) hne2;generalize wx.setCells xb 3 (lV M.cells)=wy at TSy TRy HCy agd agf X3 anQ HFy ⊢;have hst:=au7 HRR.out;have hfew:=aB8 HRR.out;have hf2:=HI.out.few;have hs2:=HI.out.steps;have hzy:=HFy.out.size
     have hlat:=HI.out.later;obtain⟨v9,w9,hap,af0,anR⟩:=aB9 w1.heap.size (.slice U9 s.out.length Va) s.out.length _ _ B0 M.out.length _ wy bQ X3.out anQ.out (aCa _) bQ;obtain⟨KD,JK,rfl⟩:=pI af0;have tO:=kD X3.out;have hsn:¬(Value.slice U9 s.out.length Va).ownBlock=some (w.heap.size+1+1):=fun e=>(tO _ e).ne TSy dS rfl;have hrn:¬(Value.slice U9 s.out.length Va).ownBlock=some (w.heap.size+1):=fun e=>(tO _ e).ne TRy dS rfl;have y2:wy.cell? ⟨w.heap.size+1+1,2,none⟩=some (.slice U9 s.out.length Va):=agd.out.cell 2 bQ;have ym:wy.cell? ⟨m,17,none⟩=some (.slice yG M.out.length cap5):=agf.out.cell 17 bQ;have hmn:¬(Value.slice U9 s.out.length Va).ownBlock=some m:=fun e=>by have:=(HI.out.out.lt m e).2;omega
     have YI:=bW (dQ.grown anR (M:=fun b=>(Value.slice U9 s.out.length Va).ownBlock=some b) fun k e=>e);have Vj:=YI.out.img agd.out bQ hsn;have IM9:=YI.out.img agf.out bQ hmn;have HC9:=bW (HCy.out.amq YI.out tO dS dS dS dS);have TS9:=TSy.fG YI.out hsn;have TR9:=TRy.fG YI.out hrn;have z2:=Vj.cell 2 bQ;have f2':=Vj.free 2 bQ;have z3:w9.cell? ⟨w.heap.size+1+1,3,none⟩=some (aU s.steps):=Vj.cell 3 bQ;have f3':=Vj.free 3 bQ;have m0':w9.cell? ⟨m,0,none⟩=some (aU num):=IM9.cell 0 bQ;have au8:w9.cell? ⟨m,18,none⟩=some (aU st):=IM9.cell 18 bQ;have hmS:¬m=w.heap.size+1+1:=bQ;go_upto_region 9 with (at_builtin;refine akB _ rfl _ _ 94 94 rfl _ _ rfl rfl hap ?_)
     clear hap;have hw1:-9223372036854775808≤s.steps+st:=bQ;have hw2:s.steps+st≤9223372036854775807:=bQ;go_upto_region 10 with fail;refine aAi ?_;intro U4;have QE:=bW (((Vj.set (j:=2) bQ (.slice KD (s.out.length+M.out.length) JK)).set (j:=3) bQ (aU (s.steps+st))).congr (I':=fun j=>([aU s.oW,aU s.num,.slice KD (s.out.length+M.out.length) JK,aU (s.steps+st)]:List Value).getD j undef) (by
      intro j hj
      have hj':j=0∨j=1∨j=2∨j=3:=bQ
      rcases hj' with rfl|rfl|rfl|rfl<;>rfl))
     have HFs:=bW U4;have TSq:=Qm (Qm TS9 ⟨w.heap.size+1+1,2,none⟩ (.slice KD (s.out.length+M.out.length) JK)) ⟨w.heap.size+1+1,3,none⟩ (aU (s.steps+st));generalize (w9.setCell ⟨w.heap.size+1+1,2,none⟩ (.slice KD (s.out.length+M.out.length) JK)).setCell ⟨w.heap.size+1+1,3,none⟩ (aU (s.steps+st))=wq at U4 HFs QE TSq ⊢;have TRq:=TR9.fG U4 bQ;have HCq:=bW (HC9.out.amq U4 (fun b e=>e▸TS9) dS dS dS dS);refine aBu ?_;intro aa3 m0q;have hxw:xb<w.heap.size:=by
      rcases iT.kind uw.out (HI.out.owns xb (.inr ⟨_,List.mem_of_getElem? HX.out,rfl⟩))with x|x
      ·exact x.lt
      ·exact x.lt
     have hxo:iT C pl0 xb:=HI.out.owns xb (.inr ⟨_,List.mem_of_getElem? HX.out,rfl⟩);have hbig:∀ b,(Value.slice U9 s.out.length Va).ownBlock=some b→w1.heap.size≤b:=fun b e=>(X3.out.lt b e).1;have HF4:=bW (((HFy.out.mono (M':=fun b=>b=xb∨w1.heap.size≤b∨b=w.heap.size+1+1) fun _ _ e=>.inl e).trans (YI.out.mono fun b _ e=>.inr (.inl (hbig b e)))).trans (HFs.out.mono fun _ _ e=>.inr (.inr e)));have Gu:=bW (((HI.out.fG.mono (M':=fun b=>iT C pl0 b∨(b=xb∨w1.heap.size≤b∨b=w.heap.size+1+1)) fun _ _ e=>.inl e).trans (HF4.out.mono fun _ _ e=>.inr e)).mono (M':=iT C pl0) fun k hk e=>e.elim id fun e=>by
      rcases e with e|e|e
      ·exact e▸hxo
      ·omega
      ·omega)
     have hzq:=HF4.out.size;have aCb:=bW (HF4.out.img HI.out.told bQ (fun e=>by omega));have Qs:=bW (HF4.out.img HI.out.res bQ (fun e=>by omega));obtain⟨N1,N2,N3⟩:=aJt HXL.out HRR.out HRN.out HDR.out;have Hf:=bW N1;have Lh:=bW N2;have HN3:=bW N3;have HTS:=bW TSq;have HTR:=bW TRq;have HOW:=bW (show ∀ b,iT C (pl.set i (({ xp with cells:=M.cells}:HP),xb,.slice Ey xp.code.length Ez)) b→iT C pl0 b from fun b hb=>HI.out.owns b (azx HX.out (y:=(({ xp with cells:=M.cells}:HP),xb,.slice Ey xp.code.length Ez)) rfl b hb));clear N1 N2 N3 U4 z2 f2' z3 f3' m0' au8 Vj IM9 y2 ym anR af0 m0 m17 m18 TSy TRy TS9 TR9 TSq TRq tO hsn hrn hmn hbig tm;by_cases h0:num=0
     ·have UM:=bW (show agc w w1 C c told time (.slice (some ⟨g,0,none⟩) n cap) pl0 (i+1) (L.set i { xp with cells:=M.cells}) ⟨s.oW,s.num,s.steps+st,s.out++M.out⟩ (.slice KD (s.out.length+M.out.length) JK) (pl.set i (({ xp with cells:=M.cells}:HP),xb,.slice Ey xp.code.length Ez)) wq from
       ⟨by have:=HN.out;omega,by rw[List.length_set];exact HI.out.len,.inl ⟨hby,hnum,Hf.out h0,HN3.out⟩,HCq.out,HOW.out,QE.out,by simpa using aa3.out,by simp;omega,by
        constructor
        ·show 0≤s.steps+st;omega
        ·show s.steps+st≤200*((i+1:Nat):Int);omega,aCb.out,Qs.out,HTS.out,HTR.out,Gu.out,by omega⟩)
      go_wp2_with fail;exact aA8
     ·have q0:wq.cell? ⟨xb,0,none⟩=some (aU xp.id):=(HCq.out.LP _ (List.mem_of_getElem? (l:=pl.set i (({ xp with cells:=M.cells}:HP),xb,.slice Ey xp.code.length Ez)) (i:=i) (by rw[List.getElem?_set_self (List.getElem?_eq_some_iff.1 HX.out).1]))).cell 0;have s0:wq.cell? ⟨w.heap.size+1+1,0,none⟩=some (aU s.oW):=QE.out.cell 0 bQ;have s1:wq.cell? ⟨w.heap.size+1+1,1,none⟩=some (aU s.num):=QE.out.cell 1 bQ;have t0:=QE.out.free 0 bQ;have t1:=QE.out.free 1 bQ;have hgS:¬xb=w.heap.size+1+1:=bQ;go_upto_region 11 with fail;go_region;go_wp2_with fail;have IW:P.Img ((wq.setCell ⟨w.heap.size+1+1,0,none⟩ (aU xp.id)).setCell ⟨w.heap.size+1+1,1,none⟩ (aU num)).drew (w.heap.size+1+1) 4 (fun j=>([aU xp.id,aU num,.slice KD (s.out.length+M.out.length) JK,aU (s.steps+st)]:List Value).getD j undef) :=
       Img.drew (((QE.out.set (j:=0) bQ (aU xp.id)).set (j:=1) bQ (aU num)).congr fun j hj=>by
        have hj':j=0∨j=1∨j=2∨j=3:=bQ
        rcases hj' with rfl|rfl|rfl|rfl<;>rfl)
      have FW:dQ (fun b=>b=w.heap.size+1+1) wq ((wq.setCell ⟨w.heap.size+1+1,0,none⟩ (aU xp.id)).setCell ⟨w.heap.size+1+1,1,none⟩ (aU num)).drew :=
       ⟨rfl,rfl,rfl,by simp,fun b _ hb=>(Below.heap_setCell _ _ _ _ hb).trans (Below.heap_setCell _ _ _ _ hb)⟩
      have TW:Typed ((wq.setCell ⟨w.heap.size+1+1,0,none⟩ (aU xp.id)).setCell ⟨w.heap.size+1+1,1,none⟩ (aU num)).drew (w.heap.size+1+1) 99:=Qm (Qm (w:=wq) HTS.out _ _) _ _;generalize ((wq.setCell ⟨w.heap.size+1+1,0,none⟩ (aU xp.id)).setCell ⟨w.heap.size+1+1,1,none⟩ (aU num)).drew=wz at IW FW TW ⊢;have hz2:=FW.size;have UM:=bW (show agc w w1 C c told time (.slice (some ⟨g,0,none⟩) n cap) pl0 (i+1) (L.set i { xp with cells:=M.cells}) ⟨xp.id,num,s.steps+st,s.out++M.out⟩ (.slice KD (s.out.length+M.out.length) JK) (pl.set i (({ xp with cells:=M.cells}:HP),xb,.slice Ey xp.code.length Ez)) wz from
       ⟨by have:=HN.out;omega,by rw[List.length_set];exact HI.out.len,.inr ⟨by show xp.id≠0;omega,Lh.out h0⟩,HCq.out.amq FW (fun b e=>e▸HTS.out) dS dS dS dS,HOW.out,IW,FW.row (by simpa using aa3.out) (fun b hb (e:b=w.heap.size+1+1)=>by have:=(aa3.out.lt b hb).1;omega),by simp;omega,by
        constructor
        ·show 0≤s.steps+st;omega
        ·show s.steps+st≤200*((i+1:Nat):Int);omega,FW.img aCb.out bQ bQ,FW.img Qs.out bQ bQ,TW,HTR.out.fG FW bQ,((Gu.out.mono (M':=fun b=>iT C pl0 b∨b=w.heap.size+1+1) fun _ _ e=>.inl e).trans (FW.mono fun _ _ e=>.inr e)).mono fun k hk e=>e.elim id fun e=>by omega,by omega⟩)
      exact aA8
   ·have k0':wr.cell? ⟨w.heap.size+1+1,0,none⟩=some (aU s.oW):=k0;clear k0;have hbn:(s.oW !=0)=true:=by simpa using hby
    have hbe:(s.oW==0)=false:=by simpa using hby
    obtain⟨PI,PF⟩:=aqA HI.out.res s.oW s.num s.steps (.slice U9 s.out.length Va);have PI':=bW PI;have PF':=bW PF;have hR:hrun told time c.l .zero=(L,s):=by
     rcases HI.out.state with ⟨e,-⟩|⟨-,e⟩
     ·exact absurd e hby
     ·exact e
    have HRN:=bW hR;have KG:=bW (aCc uw.out HI.out hs1 hR PF);clear PI PF hR;exact aCd
  ·obtain rfl:i=n:=bQ;obtain⟨PI,PF⟩:=aqA HI.out.res s.oW s.num s.steps (.slice U9 s.out.length Va);have PI':=bW PI;have PF':=bW PF;have HRN:=bW (HI.out.ends HN.out.symm);have KG:=bW (aCc uw.out HI.out hs1 HRN.out PF);clear PI PF;exact aCd
structure Um(w:World)(B:Nat)(L:List (Int × Sd × Value))(v:Value):Prop where
 row:w.ownsRow B 101 5 v L.length (L.flatMap LG)
 outs:∀ x∈L,w.ownsRow B 2 1 x.2.2 x.2.1.out.length (x.2.1.out.map (Value.int .i64))
theorem Um.zero(w:World)(B:Nat):Um w B [] (.slice none 0 0):=⟨World.ownsRow_nil _ _ _ _,fun x h=>by cases h⟩
theorem Um.fG{M:Nat→Prop}{w w':World}{B:Nat}{L:List (Int × Sd × Value)}{v:Value}(h:Um w B L v)(hf:dQ M w w')(h1:∀ b,v.ownBlock=some b→¬M b)(h2:∀ b,Typed w b 2→¬M b):Um w' B L v :=
 ⟨hf.row h.row h1,fun x hx=>hf.row (h.outs x hx) fun b hb=>h2 b (kD (h.outs x hx) b hb)⟩
theorem aGN:((Tryz.prog).info? 101).map (fun i=>(i.zero,i.size,i.bytes))=some (some (.agg #[aU 0,aU 0,aU 0,.slice none 0 0,aU 0]),5,56):=dF
theorem aGO(B:Nat)(L:List (Int × Sd × Value))(v:Value)(x:Int × Sd × Value)(ad c:Nat)(w:World)(hB:B≤w.heap.size)(h:Um w B L v)(hx:w.ownsRow B 2 1 x.2.2 x.2.1.out.length (x.2.1.out.map (Value.int .i64)))(had:∀ j u,(LG x)[j]?=some u→w.cell? ⟨ad,j,none⟩=some u)(hs:L.length≤1000) :
  ∃ v' w',(Builtin.append_ #[90,90] 90 #[v,.slice (some ⟨ad,0,none⟩) 1 c]).run Tryz.prog w=.ok v' w'∧Um w' B (L++[x]) v'∧w.grownBy w' v.ownBlock:=by
 obtain⟨i0,hi0,hz⟩:=Option.map_eq_some_iff.1 aGN;have hz0:i0.zero=some _:=congrArg (·.1) hz;have hz1:i0.size=5:=congrArg (·.2.1) hz;have hz2:i0.bytes=56:=congrArg (·.2.2) hz;obtain⟨ogx,cpx,ho⟩:=pI hx;obtain⟨v',w',hr,h2,h3,_,_⟩:=run_append_own_at (P:=Tryz.prog) (w:=w) B 90 90 101 i0 _ 5 56 Tryz.underlying90 hi0 hz0 hz1 hz2 rfl dS v L.length (L.flatMap LG) h.row ⟨ad,0,none⟩ 1 c (LG x) rfl (fun j u hj=>by
   have ea:w.cell? (Addr.add ⟨ad,0,none⟩ j)=w.cell? ⟨ad,j,none⟩:=by
    simp[Addr.add]
    split<;>simp_all
   rw[ea];exact had j u hj) (fun u hu=>by
   unfold LG at hu
   simp only[List.mem_cons,List.not_mem_nil,or_false]at hu
   rcases hu with rfl|rfl|rfl|rfl|rfl
   all_goals first|rfl|(rw[ho];rfl)) JF bQ hB
 exact ayc
def JG(d:HD)(k:Nat)(s:HS):HD:=⟨upd d.c k s.c,upd d.q k s.q,d.may,d.left,s.time⟩
theorem aGP(d:HD)(k:Nat):JG d k (Qp d k)=d:=by
 have h:∀ {α:Type} (f:Nat→α),upd f k (f k)=f:=fun f=>by
  exact asM
 unfold JG Qp;simp only[h]
theorem ayd(d:HD)(k:Nat)(s:HS)(c':HC)(r:List (Nat→Int)):(⟨upd (JG d k s).c k c',upd (JG d k s).q k r,d.may,d.left,s.time⟩:HD)=JG d k ⟨c',r,s.left,s.time,s.done⟩:=by
 have h:∀ {α:Type} (f:Nat→α) (x y:α),upd (upd f k x) k y=upd f k y:=fun f x y=>by
  funext j
  by_cases e:j=k
  ·subst e;rw[upd_same,upd_same]
  ·exact asN
 unfold JG;simp only[h]
structure wJ(w:World)(R:Nat)(Cs:Nat→Nat)(vs qs:Nat→Value)(dO:Nat→List RP)(d':HD)(dn:List (Int × Sd))(y:Value)(iW:Nat→Value)(iP:Nat→List RP)(L:List (Int × Sd × Value))(wr:World):Prop where
 iQ:xX wr R d' Cs vs iW iP
 Kz:Um wr w.heap.size L y
 eq:L.map (fun x=>(x.1,x.2.1))=dn
 fG:dQ (qo R Cs qs dO) w wr
 own:∀ b,qo R Cs iW iP b→qo R Cs qs dO b∨w.heap.size≤b
section
variable{w wr wr':World}{R:Nat}{Cs:Nat→Nat}{vs qs iW aeD:Nat→Value}{d' d'':HD}{dn:List (Int × Sd)}{y:Value}{dO iP agU:Nat→List RP}{L:List (Int × Sd × Value)}
theorem wJ.step(h:wJ w R Cs vs qs dO d' dn y iW iP L wr)(hf:dQ (qo R Cs iW iP) wr wr')(hd:xX wr' R d'' Cs vs aeD agU)(ho:∀ b,qo R Cs aeD agU b→qo R Cs iW iP b∨wr.heap.size≤b):wJ w R Cs vs qs dO d'' dn y aeD agU L wr':=by
 refine⟨hd,h.Kz.fG hf (fun b hb e=>?_) (fun b ht e=>?_),h.eq,?_,fun b hb=>?_⟩
 ·have:=qo.kind h.iQ e (kD h.Kz.row b hb);revert this;decide
 ·have:=qo.kind h.iQ e ht;revert this;decide
 ·exact((h.fG.mono (M':=fun b=>qo R Cs qs dO b∨w.heap.size≤b) fun k _ e=>.inl e).trans (hf.mono fun k _ e=>h.own k e)).mono fun k hk e=>e.elim id fun e=>by omega
 ·exact aye
theorem wJ.later(h:wJ w R Cs vs qs dO d' dn y iW iP L wr)(hb:Below wr.heap.size wr wr'):wJ w R Cs vs qs dO d' dn y iW iP L wr' :=
 h.step ((dQ.of hb (M:=qo R Cs iW iP))) (h.iQ.later hb) fun b hb=>.inl hb
theorem wJ.left(h:wJ w R Cs vs qs dO d' dn y iW iP L wr){k:Nat}(hk:k<3)(x:Int):wJ w R Cs vs qs dO { d' with left:=upd d'.left k x} dn y iW iP L (wr.setCell ⟨R,9+k,none⟩ (aU x)):=by
 obtain⟨h1,h2⟩:=h.iQ.amo (d':={ d' with left:=upd d'.left k x}) (o:=9+k) bQ rfl rfl (aGQ hk x);exact h.step h2 h1 fun b hb=>.inl hb
theorem wJ.time(h:wJ w R Cs vs qs dO d' dn y iW iP L wr)(x:Int):wJ w R Cs vs qs dO { d' with time:=x} dn y iW iP L (wr.setCell ⟨R,12,none⟩ (aU x)):=by
 obtain⟨h1,h2⟩:=h.iQ.amo (d':={ d' with time:=x}) (o:=12) bQ rfl rfl (aGR x);exact h.step h2 h1 fun b hb=>.inl hb
theorem wJ.tail(h:wJ w R Cs vs qs dO d' dn y iW iP L wr){k:Nat}(hk:k<3){r:List (Nat→Int)}{v':Value}(hq:DW wr r v')(hown:∀ b,v'.ownBlock=some b→(iW k).ownBlock=some b):wJ w R Cs vs qs dO { d' with q:=upd d'.q k r} dn y (upd iW k v') iP L (wr.setCell ⟨R,3+k,none⟩ v'):=by
 exact ayf
theorem aGS{α:Type}(f:Nat→α)(k:Nat):upd f k (f k)=f:=by
 exact asM
theorem wJ.ran(h:wJ w R Cs vs qs dO d' dn y iW iP L wr){k:Nat}(hk:k<3)(hf:dQ (iT (Cs k) (iP k)) wr wr'){c':HC}{jQ:List RP}(hq:nM wr' (Cs k) c' (vs k) jQ)(ho:∀ b,iT (Cs k) jQ b→iT (Cs k) (iP k) b):wJ w R Cs vs qs dO { d' with c:=upd d'.c k c'} dn y iW (upd iP k jQ) L wr':=by
 obtain⟨h1,h2,h3⟩:=h.iQ.acQ hk hf hq fun b hb=>.inl (ho b hb);rw[aGS]at h1;exact h.step h2 h1 h3
theorem wJ.add(h:wJ w R Cs vs qs dO d' dn y iW iP L wr){x:Int × Sd × Value}{y':Value}(hd:Um wr' w.heap.size (L++[x]) y')(hg:wr.grownBy wr' y.ownBlock):wJ w R Cs vs qs dO d' (dn++[(x.1,x.2.1)]) y' iW iP (L++[x]) wr':=by
 have hf:=dQ.grown hg (M:=fun b=>y.ownBlock=some b) fun k e=>e;refine⟨h.iQ.fG hf (fun b hb e=>?_) (fun b ht e=>?_) (fun b ht e=>?_),hd,?_,?_,h.own⟩
 ·have:=qo.kind h.iQ hb (kD h.Kz.row b e);revert this;decide
 ·exact asO
 ·exact asO
 ·rw[List.map_append,h.eq];rfl
 ·exact((h.fG.mono (M':=fun b=>qo R Cs qs dO b∨w.heap.size≤b) fun k _ e=>.inl e).trans (hf.mono fun k _ e=>.inr (h.Kz.row.lt k e).1)).mono fun k hk e=>e.elim id fun e=>by omega
end
theorem aeE{W:World}{g a R k:Nat}{e:Nat→Int}{d:HD}{Cs:Nat→Nat}{qs:Nat→Value}(hk:k<3)(h:W.rangeAt g a (t8 e))(hd:P.Img W R 13 (EW d Cs qs)):W.cell? ⟨R,k,none⟩=some (.pointer (some ⟨Cs k,0,none⟩))∧W.cell? ⟨R,3+k,none⟩=some (qs k)∧W.cell? ⟨R,12,none⟩=some (aU d.time) ∧
  W.cell? ⟨g,a,none⟩=some (aU (e 0))∧W.cell? ⟨g,a+1,none⟩=some (aU (e 1))∧W.cell? ⟨g,a+2,none⟩=some (aU (e 2))∧W.cell? ⟨g,a+3,none⟩=some (aU (e 3))∧W.cell? ⟨g,a+4,none⟩=some (aU (e 4))∧W.cell? ⟨g,a+5,none⟩=some (aU (e 5))∧W.cell? ⟨g,a+6,none⟩=some (aU (e 6))∧W.cell? ⟨g,a+7,none⟩=some (aU (e 7)) :=
 ⟨(hd.cell k bQ).trans (congrArg some (ayg hk)),(hd.cell (3+k) bQ).trans (congrArg some (agV hk)),hd.cell 12 bQ,h 0 _ rfl,h 1 _ rfl,h 2 _ rfl,h 3 _ rfl,h 4 _ rfl,h 5 _ rfl,h 6 _ rfl,h 7 _ rfl⟩
theorem ayh{wr W:World}{m C:Nat}{c:HC}{v:Value}{pl0 pl:List RP}{arr:Array Value}{sd:Sd}{og:Option Addr}{cap:Nat}(hf:dQ (iT C pl0) wr W)(hrow:W.ownsRow wr.heap.size 2 1 (.slice og sd.out.length cap) sd.out.length (sd.out.map (Value.int .i64)))(hch:nM W C c v pl)(ho:∀ b,iT C pl b→iT C pl0 b)
  (hm:wr.heap.size≤m) (ht:Typed W m 99) (hth:W.there m 0 4) (e1:arr.toList=[aU sd.oW,aU sd.num,.slice og sd.out.length cap,aU sd.steps]) :
  (storeCells ⟨m,0,none⟩ arr.toList 0).run Tryz.prog W=.ok () (W.setCells m 0 arr.toList) ∧
  Hid (∃ (m':Nat) (out:Value) (LH:List RP),Value.pointer (some ⟨m,0,none⟩)=.pointer (some ⟨m',0,none⟩)∧wr.heap.size≤m'∧P.Img (W.setCells m 0 arr.toList) m' 4 (i4 sd.oW sd.num out sd.steps)∧(W.setCells m 0 arr.toList).ownsRow wr.heap.size 2 1 out sd.out.length (sd.out.map (Value.int .i64))∧nM (W.setCells m 0 arr.toList) C c v LH∧dQ (iT C pl0) wr (W.setCells m 0 arr.toList)∧∀ b,iT C LH b→iT C pl0 b):=by
 have s1:arr.size=4:=by rw[←Array.length_toList,e1];rfl
 have hz:=DY m arr.toList 0 W;refine⟨WJ (by rw[s1];exact hth) (by rw[e1];exact asP _ _ _ _ _ _),bW ⟨m,.slice og sd.out.length cap,pl,rfl,hm,?_,?_,?_,?_,ho⟩⟩
 ·have:=agY (w:=W) (b:=m) (vs:=arr.toList) (by rw[e1];exact hth);rw[e1]at this ⊢;exact this
 ·exact hz.row hrow fun b hb e=>(kD hrow b hb).ne (e▸ht) dS rfl
 ·exact hch.amq hz (fun b e=>e▸ht) dS dS dS dS
 ·exact((hf.mono (M':=fun b=>iT C pl0 b∨b=m) fun k _ e=>.inl e).trans (hz.mono fun k _ e=>.inr e)).mono fun k hk e=>e.elim id fun e=>by omega
theorem aGT{M:Nat→Prop}{W W':World}{b o:Nat}{cs:List Value}(h:W.rangeAt b o cs)(hf:dQ M W W')(hM:¬M b):W'.rangeAt b o cs:=fun j v hv=>hf.cell (h j v hv) hM
end Go.Proofs.YtglilddlhibogaaGreatDoor.W
namespace Go.Proofs.YtglilddlhibogaaGreatDoor.W
open Go.RowKit Go.Proofs.YtglilddlhibogaaGreatDoor.P
theorem aEJ{B:Int}{d:HD}(h:Za B d)(hB:B≤900000):∀ k:Nat,k≤3→Za (B+20*k) (sW d k)
 |0,_=>by simpa[sW]using h
 |k+1,hk=>by
  have h1:=aEJ h hB k bQ;have:=(h1.after bQ (k:=k) bQ).1;have e:B+20*(k:Int)+20=B+20*((k+1:Nat):Int):=NP;rw[e]at this;exact this
structure aox(d:HD)(k:Nat)(s:HS):Prop where
 ok:SOk d k s
 c:s.c.Ok
 told:∀ e∈s.q,∀ r,In64 (e r)
 time:0≤s.time∧s.time≤1000000000
theorem aox.one{d:HD}{k:Nat}{s:HS}(h:aox d k s){e:Nat→Int}{r:List (Nat→Int)}(hq:s.q=e::r)(hl:0<s.left)(ht:d.time+(d.q k).length≤1000000000):aox d k (s.one e r):=by
 have h1:=h.told;rw[hq]at h1;have h2:=h.ok.one hq hl h.c.short;refine⟨h2,h.c.ran (h1 e dY) (by have:=h.time;unfold In64;omega),fun x hx=>h1 x (List.mem_cons_of_mem _ hx),?_⟩;have:=h2.time;have e2:(s.one e r).time=s.time+1:=rfl;have:=h.time;omega
theorem aLl{w:World}{R:Nat}{d:HD}{Cs:Nat→Nat}{vs qs:Nat→Value}{dO:Nat→List RP}(h:xX w R d Cs vs qs dO){B:Int}(hT:Za B d)(hB:B≤900000) :
  Calls Tryz.prog 27 #[.pointer (some ⟨R,0,none⟩)] w fun e w'=>∃ y iW iP L,e=.returned y∧wJ w R Cs vs qs dO d.round d.done y iW iP L w':=by
 have HR0:=bW (show wJ w R Cs vs qs dO (sW d 0) (Vt d 0) (.slice none 0 0) qs dO [] w from⟨h,Um.zero _ _,rfl,dQ.refl _ _,fun b hb=>.inl hb⟩);have HT:=bW hT;have HB:=bW hB;have HQ:=bW hT.few;clear h hT hB;go_enter Tryz.func27,Tryz.ntmps27;go_wp2_with fail;go_loopw [7,3] (fun x y wr=>∃ (k:Nat) (iW:Nat→Value) (iP:Nat→List RP) (L:List (Int × Sd × Value)),k≤3∧x=aU k∧wJ w R Cs vs qs dO (sW d k) (Vt d k) y iW iP L wr) (fun x _ _=>3-(intOf x).toNat)
 case atStart=>exact⟨0,qs,dO,[],by omega,rfl,HR0.out⟩
 case round =>
  obtain⟨k,iW,iP,L,hk,rfl,hR⟩:=hrel;obtain⟨oy,cy,rfl⟩:=pI hR.Kz.row;have HR:=bW hR;clear hR HR0;by_cases hk3:k<3
  ·have k4:(k:Int)<3:=bQ;have hti:=aEJ HT.out HB.out k hk;have hB:=HB.out;have hl0:=hti.left k hk3;have hm0:=hti.Yu k hk3;have hq0:=hti.few k hk3;have htk:=hti.time;have hlk:=aqU d HQ.out k hk;have HTI:=bW hti;clear hti;have e9:wr.cell? ⟨R,9+k,none⟩=some (aU ((sW d k).left k)):=(HR.out.iQ.img.cell (9+k) bQ).trans (congrArg some (aro hk3));have e6:wr.cell? ⟨R,6+k,none⟩=some (aU ((sW d k).may k)):=(HR.out.iQ.img.cell (6+k) bQ).trans (congrArg some (aNQ hk3));obtain⟨dn,hdn⟩:∃ dn,Vt d k=dn:=⟨_,rfl⟩;obtain⟨dk,hdk⟩:∃ dk,sW d k=dk:=⟨_,rfl⟩;have HE:=bW (show sW d (k+1)=dk.after k∧Vt d (k+1)=dn++dk.aa5 k by subst hdn;subst hdk;exact⟨rfl,rfl⟩);have HTK:=bW (hdk▸HTI.out);rw[hdk]at hl0 hq0 hm0 htk e9 e6;rw[hdn]at hlk;have HR2:=bW (show wJ w R Cs vs qs dO dk dn (.slice oy L.length cy) iW iP L wr by subst hdk;subst hdn;exact HR.out);have HS0:=bW (show aox dk k (Qp dk k)from⟨SOk.start (d:=dk) (k:=k) bQ bQ bQ hm0.2,HTK.out.ok k hk3,HTK.out.told k hk3,htk.1,by show dk.time≤_;omega⟩);clear hdk hdn HR HTI;have hw:IntKind.i64.wrap (dk.left k+dk.may k)=dk.left k+dk.may k:=X0;go_upto_region 5 with fail;go_cut [5] (fun x W=>x=aU (Qp dk k).left∧wJ w R Cs vs qs dO (JG dk k (Qp dk k)) dn (.slice oy L.length cy) iW iP L W)
   case first =>
    go_region;go_wp2_with fail;go_meet
    go_light;rw[aGP];exact⟨rfl,HR2.out.later (Below.refl _ _).drew⟩
   case rest =>
    obtain⟨rfl,hcut⟩:=hcut;obtain⟨wx,hwx⟩:∃ x,x=wc:=⟨_,rfl⟩;subst hwx;have HX:=bW hcut;clear hcut e9 e6 hw HR2;go_wp2_with fail;go_loopw [5,3] (fun x y wr=>∃ (s:HS) (iW:Nat→Value) (iP:Nat→List RP) (L:List (Int × Sd × Value)),aox dk k s∧x=aU s.left∧wJ w R Cs vs qs dO (JG dk k s) (dn++s.done.map fun t=>((k:Int),t)) y iW iP L wr) (fun _ y _=>100-lenV y)
    case atStart=>exact⟨_,_,_,_,HS0.out,rfl,by simpa[Qp]using HX.out⟩
    case round =>
     obtain⟨s,Vz,Ik,L2,hS,rfl,hR2⟩:=hrel;obtain⟨oy,cy,rfl⟩:=pI hR2.Kz.row;have hq2:DW wr s.q (Vz k):=by have:=hR2.iQ.queue k hk3;unfold JG at this;simp only[upd_same]at this;exact this
     have X5:wr.cell? ⟨R,3+k,none⟩=some (Vz k):=(hR2.iQ.img.cell (3+k) bQ).trans (congrArg some (agV hk3));have hLl:L2.length=dn.length+s.done.length:=by have:=congrArg List.length hR2.eq;simpa using this
     have HR3:=bW hR2;have HS:=bW hS;have Yw:=bW hq2;have HFW:=bW hS.ok.few;have HLL:=bW hLl;clear hLl;clear hR2 hS hq2 HX HS0;by_cases hc:0<s.q.length∧0<s.left
     ·obtain⟨hc1,hc2⟩:=hc;obtain⟨e,r,her⟩:∃ e r,s.q=e::r:=by
       cases hx:s.q with
       |nil=>rw[hx]at hc1;simp at hc1
       |cons e r=>exact⟨e,r,rfl⟩
      have hQ:=Yw.out;rw[her]at hQ;obtain⟨g,o,cap,yZ,hcp1,hcp2,X6,htail⟩:=hQ.tail;rw[yZ]at X5;have kq:(0:Int)<((r.length+1:Nat):Int):=bQ;have HTL:=bW htail;have HER:=bW her;have YH:=bW X6;clear htail hQ her X6;go_upto_region 7 with fail;have hch:nM wr (Cs k) s.c (vs k) (Ik k):=by have:=HR3.out.iQ.chain k hk3;unfold JG at this;simp only[upd_same]at this;exact this
      have U5:=bW (show ∀ b,iT (Cs k) (Ik k) b→b<wr.heap.size from fun b hb=>by
       rcases iT.kind hch hb with x|x
       ·exact x.lt
       ·exact x.lt)
      have LM:=bW HR3.out.iQ.img;have HNR:=bW (show¬iT (Cs k) (Ik k) R from fun e=>by
       rcases iT.kind hch e with x|x
       ·have:=x.same HR3.out.iQ.typed;revert this;decide
       ·have:=x.same HR3.out.iQ.typed;revert this;decide)
      have tg:Typed wr g 34:=Yw.out.typed g (by rw[yZ];rfl);have HNG:=bW (show¬iT (Cs k) (Ik k) g from fun e=>by
       rcases iT.kind hch e with x|x
       ·have:=x.same tg;revert this;decide
       ·have:=x.same tg;revert this;decide)
      have zR:R<wr.heap.size:=HR3.out.iQ.typed.lt;have zg:g<wr.heap.size:=tg.lt;have n3:¬R=wr.heap.size:=bQ;have n4:¬g=wr.heap.size:=bQ;have RUN:=fun W (hb:Below wr.heap.size wr W)=>aB3 (hch.later hb) HS.out.c e s.time (HS.out.told e (by rw[HER.out];simp)) (by have:=HS.out.time;unfold In64;omega);obtain⟨X,hX⟩:∃ X,hrun e s.time s.c.l .zero=X:=⟨_,rfl⟩;rw[hX]at RUN;have HX:=bW hX;obtain⟨l',sd⟩:=X;simp only at RUN;unfold t8 at RUN;have wV:=bW RUN;have HQV:=bW yZ;have uw:=bW hch;clear RUN hX hch tg;have S0:=aeE hk3 YH.out LM.out;rw[yZ]at S0;go_cut [6] (fun y W=>∃ (m:Nat) (out:Value) (LH:List RP),y=.pointer (some ⟨m,0,none⟩)∧wr.heap.size≤m∧P.Img W m 4 (i4 sd.oW sd.num out sd.steps)∧W.ownsRow wr.heap.size 2 1 out sd.out.length (sd.out.map (Value.int .i64))∧nM W (Cs k) ⟨l',s.c.next⟩ (vs k) LH∧dQ (iT (Cs k) (Ik k)) wr W∧∀ b,iT (Cs k) LH b→iT (Cs k) (Ik k) b)
      case first =>
       go_region_held3 (fun W=>W.cell? ⟨R,k,none⟩=some (.pointer (some ⟨Cs k,0,none⟩))∧W.cell? ⟨R,3+k,none⟩=some (.slice (some ⟨g,o*8,none⟩) (r.length+1) cap)∧W.cell? ⟨R,12,none⟩=some (aU s.time)∧W.cell? ⟨g,o*8,none⟩=some (aU (e 0))∧W.cell? ⟨g,o*8+1,none⟩=some (aU (e 1))∧W.cell? ⟨g,o*8+2,none⟩=some (aU (e 2))∧W.cell? ⟨g,o*8+3,none⟩=some (aU (e 3))∧W.cell? ⟨g,o*8+4,none⟩=some (aU (e 4))∧W.cell? ⟨g,o*8+5,none⟩=some (aU (e 5))∧W.cell? ⟨g,o*8+6,none⟩=some (aU (e 6))∧W.cell? ⟨g,o*8+7,none⟩=some (aU (e 7)))
        ((rw[←HQV.out];first|exact aeE hk3 YH.out LM.out|exact aeE hk3 (ach YH.out) (LM.out.alloc _)|exact aeE hk3 arV.out arW.out|exact aeE hk3 (ach arV.out) (arW.out.alloc _)|exact aeE hk3 (World.rangeAt_setCells_apart (ach arV.out) _ _ _ (.inl n2)) (QC (arW.out.alloc _) n1)|exact aeE hk3 (World.rangeAt_setCells_apart arV.out _ _ _ (.inl n4)) (QC arW.out n3)))
        (first
         |(go_at_call 31;refine(wV.out _ ?_).mono ?_;(repeat' (first|with_reducible exact Below.refl _ _|with_reducible refine Below.drew ?_|with_reducible refine Below.alloc ?_ ?_ _|(simp;done)|omega));rintro e5 w5 ⟨out,LH,he5,vZ,an2,hf5,ho5⟩;obtain⟨yG,cap5,rfl⟩:=pI vZ;obtain⟨arr,agj⟩:∃ arr:Array Value,(#[aU sd.oW,aU sd.num,.slice yG sd.out.length cap5,aU sd.steps]:Array Value)=arr:=⟨_,rfl⟩;rw[agj]at he5;subst he5;have harr:arr.toList=[aU sd.oW,aU sd.num,.slice yG sd.out.length cap5,aU sd.steps]:=(by rw[←agj]);have EX:=bW harr;have hsz:arr.size=4:=ant;have hone:∀ v∈arr.toList,v.oneCell'=true:=(by rw[harr];exact asP _ _ _ _ _ _);clear harr agj;have ZJ:=bW (show dQ (iT (Cs k) (Ik k)) wr w5 from(dQ.of (show Below wr.heap.size wr _ from am7)).trans hf5);have yj:=bW (World.ownsRow.mono (base':=wr.heap.size) vZ anr);have an3:=bW an2;have HO5:=bW ho5;have arW:=bW (ZJ.out.img LM.out bQ HNR.out);have arV:=bW (aGT YH.out ZJ.out HNG.out);have zs5:=ZJ.out.size;have n1:¬R=w5.heap.size:=bQ;have n2:¬g=w5.heap.size:=bQ;have qx:=bW hf5;clear hf5 vZ an2 ho5;(first|(have EC:Hid (dQ (iT (Cs k) (Ik k)) (wr).drew w5):=qx;obtain⟨ha1,ha2⟩:=ayh (wr:=wr) (W:=w5.alloc (.cells #[aU 0,aU 0,.slice none 0 0,aU 0] 99)) (m:=w5.heap.size) (ZJ.out.trans (dQ.of ((Below.refl w5.heap.size w5).alloc (Nat.le_refl _) _))) (yj.out.alloc _) (an3.out.later ((Below.refl _ _).alloc (Nat.le_refl _) _)) HO5.out zs5 ⟨_,heap_alloc_new w5 _⟩ (Tz (heap_alloc_new w5 _) rfl) EX.out)|(have EC:Hid (dQ (iT (Cs k) (Ik k)) (World.alloc wr (.cells #[aU 0,aU 0,.slice none 0 0,aU 0] 99)).drew w5):=qx;have hbk:=(EC.out.block wr.heap.size dY (fun e=>Nat.lt_irrefl _ (U5.out _ e))).trans (heap_alloc_new wr (.cells #[aU 0,aU 0,.slice none 0 0,aU 0] 99));obtain⟨hb1,hb2⟩:=ayh (wr:=wr) (W:=w5) (m:=wr.heap.size) ZJ.out yj.out an3.out HO5.out (Nat.le_refl _) ⟨_,hbk⟩ (Tz hbk rfl) EX.out;clear hbk))))
       all_goals (go_wp2_with fail;go_meet;go_light;first|exact ha2.out|exact hb2.out)
      case rest =>
       obtain⟨m,out,LH,rfl,hm,IM,hrow,hch,hf,ho⟩:=hcut;obtain⟨w3,hw3⟩:∃ x,x=wc:=⟨_,rfl⟩;subst hw3;obtain⟨oo,co,rfl⟩:=pI hrow;have hR6:=HR3.out.ran hk3 hf hch ho;have cq3:w3.cell? ⟨R,3+k,none⟩=some (.slice (some ⟨g,o*8,none⟩) (r.length+1) cap):=hf.cell X5 HNR.out;have EJ:=hR6.iQ.img.free (3+k) bQ;have aEK:=bW (HTL.out.fG hf (fun b hb e=>HNG.out ((show g=b by simpa[Value.ownBlock]using hb)▸e)));have an1:=bW (show cap=1→DW w3 r (.slice (some ⟨g,o*8,none⟩) r.length 0)from fun h1=>by
        subst h1
        have:=Yw.out
        rw[HER.out,HQV.out]at this
        exact this.last.fG hf (fun b hb e=>HNG.out ((show g=b by simpa[Value.ownBlock]using hb)▸e)))
       have HR6:=bW hR6;have ado:=bW hrow;have IM6:=bW IM;have hz3:=hf.size;have hmR:¬m=R:=bQ;clear hR6 hrow hch hf IM ho wV S0 LM YH uw HTL U5 X5 yZ;go_upto_region 8 with fail;go_cut [65] (fun _ W=>∃ v',wJ w R Cs vs qs dO (JG dk k ⟨⟨l',s.c.next⟩,r,s.left,s.time,s.done⟩) (dn++s.done.map fun t=>((k:Int),t)) (.slice oy L2.length cy) (upd Vz k v') (upd Ik k LH) L2 W∧dQ (fun b=>b=R) w3 W)
       case first =>
        go_region;go_wp2_with fail
        ·go_meet
         go_light;have hh:wJ w R Cs vs qs dO (⟨upd (JG dk k s).c k ⟨l',s.c.next⟩,upd (JG dk k s).q k r,dk.may,dk.left,s.time⟩:HD) _ _ _ _ _ _:=HR6.out.tail hk3 (an1.out bQ) (fun b hb=>by rw[HQV.out];exact hb);rw[ayd]at hh;exact aBi
        ·go_meet
         go_light;have hh:wJ w R Cs vs qs dO (⟨upd (JG dk k s).c k ⟨l',s.c.next⟩,upd (JG dk k s).q k r,dk.may,dk.left,s.time⟩:HD) _ _ _ _ _ _:=HR6.out.tail hk3 aEK.out (fun b hb=>by rw[HQV.out];exact hb);rw[ayd,show(o+1)*8=o*8+8 by omega]at hh;exact aBi
       case rest =>
        obtain⟨v',ZO,ZP⟩:=hcut;obtain⟨w4,hw4⟩:∃ x,x=wc:=⟨_,rfl⟩;subst hw4;have ct:w4.cell? ⟨R,12,none⟩=some (aU s.time):=ZO.iQ.img.cell 12 bQ;have gt:w4.frozen? ⟨R,12,none⟩=false:=ZO.iQ.img.free 12 bQ;have hst:=ahi e s.time s.c.l .zero;rw[HX.out]at hst;have z0:Sd.zero.steps=0:=rfl;rw[z0]at hst;simp only at hst;have hs8:=HS.out.c.short;have hSt:=HS.out.time;have hSl:=HS.out.ok.lo;have hSh:=HS.out.ok.hi;have hw1:IntKind.i64.wrap (s.time+1)=s.time+1:=X0;have HR7:=bW ZO;have IM7:=bW (ZP.img IM6.out bQ hmR);have ZR:=bW (ZP.row ado.out (fun b hb e=>by have:=(ado.out.lt b hb).1;omega));have hz4:=ZP.size;clear ZO ZP HR6 aEK an1 HQV;go_upto_region 10 with fail;clear ct gt hw1;have hR8:=HR7.out.time (s.time+1);have hF8:=D5 w4 R 12 (aU (s.time+1));have Fq:=hF8.img IM7.out bQ hmR;have hW8:=hF8.row ZR.out (fun b hb e=>by have:=(ZR.out.lt b hb).1;omega);generalize World.setCell w4 _ _=w5 at hR8 hF8 Fq hW8 ⊢;refine aAH ?_;intro x0 x1 x2 x3;have hw2:IntKind.i64.wrap (sd.steps+1)=sd.steps+1:=X0;have hw3:IntKind.i64.wrap (s.left-(sd.steps+1))=s.left-(sd.steps+1):=X0;have hz5:=hF8.size;have hll:=HLL.out;have hfw:=HFW.out;have aK5:L2.length≤80:=bQ;have hbA:Below w5.heap.size w5 (w5.alloc (.cells #[aU k,aU sd.oW,aU sd.num,.slice oo sd.out.length co,aU sd.steps] 101)):=(Below.refl w5.heap.size w5).alloc (Nat.le_refl _) _;have Yf:=hR8.later hbA
        obtain⟨v9,w9,hap,hd9,hg9⟩:=aGO w.heap.size L2 (.slice oy L2.length cy) ((k:Int),sd,.slice oo sd.out.length co) w5.heap.size 1 _ (Nat.le_trans hR8.fG.size hbA.size) Yf.Kz
         (World.ownsRow.mono (ED hW8 hbA) (by have:=HR3.out.fG.size;omega)) (fun j u hj=>(cell_of_row _ w5.heap.size j _ _ (0,0) (heap_alloc_new w5 _)).trans (by simpa[LG]using hj)) bQ
        obtain⟨KD,JK,rfl⟩:=pI hd9.row;have an4:=Yf.add hd9 hg9;have avu:=bW an4;have HAP:=bW hap;have HS1:=bW (HS.out.one HER.out hc2 bQ);clear hll hfw hR8 hF8 Fq hW8 hbA Yf hd9 hg9 an4 hap HR7 ZR IM7;go_wp2_with (at_builtin;refine akB _ rfl _ _ 90 90 rfl _ _ rfl rfl HAP.out ?_);refine⟨⟨s.one e r,upd Vz k v',upd Ik k LH,L2++[((k:Int),sd,.slice oo sd.out.length co)],HS1.out,?_,?_⟩,?_⟩
        ·unfold P.HS.one;rw[HX.out]
        ·refine aBB ?_;intro hl;have h:=avu.out;rw[List.length_append]at h;have hd:JG dk k (s.one e r)={ JG dk k ⟨⟨l',s.c.next⟩,r,s.left,s.time,s.done⟩with time:=s.time+1}:=by unfold P.HS.one;rw[HX.out];rfl
         rw[hd];exact h
        ·show 100-(L2.length+1)<100-L2.length;omega
     ·have hstop:s.q=[]∨¬0<s.left:=by
       exact aA9
      have hT:=(aC6 hstop).symm.trans HS.out.ok.drain;have hz:wJ w R Cs vs qs dO (sW d (k+1)) (Vt d (k+1)) (.slice oy L2.length cy) Vz Ik L2 (wr.setCell ⟨R,9+k,none⟩ (aU s.rest)):=by
       have h:=HR3.out.left hk3 s.rest;have h1:({ JG dk k s with left:=upd (JG dk k s).left k s.rest}:HD)=dk.after k:=by rw[hT];rfl
       have h2:(dn++s.done.map fun t=>((k:Int),t))=dn++dk.aa5 k:=by rw[hT];rfl
       rw[h1,h2]at h;rw[HE.out.1,HE.out.2];exact h
      have HZ:=bW hz;obtain⟨oq,cq,yZ⟩:=Yw.out.form;rw[yZ]at X5;have e9:wr.cell? ⟨R,9+k,none⟩=some (aU (dk.left k)):=(HR3.out.iQ.img.cell (9+k) bQ).trans (congrArg some (aro hk3));have g9:=HR3.out.iQ.img.free (9+k) bQ;by_cases h0:s.q=[]
      ·by_cases hl:0<s.left
       ·have an5:=bW (show s.rest=0 by unfold P.HS.rest;rw[dB h0];omega);rw[h0,List.length_nil]at X5;exact av7
       ·have an5:=bW (show s.rest=s.left by unfold P.HS.rest;rw[dB h0];omega);rw[h0,List.length_nil]at X5;exact av7
      ·have an5:=bW (show s.rest=s.left by unfold P.HS.rest;rw[dw h0]);have hq1:0<s.q.length:=by
        cases hx:s.q with
        |nil=>exact absurd hx h0
        |cons e r=>simp
       have hl0:¬0<s.left:=fun h2=>hc ⟨hq1,h2⟩;have kq1:(0:Int)<(s.q.length:Int):=bQ;have kq2:¬(s.q.length:Int)=0:=bQ;exact av7
  ·exact aC9
theorem aD6{w w':World}{v:Value}{n p:Int}(h:rC w v n p)(hb:n≠0→Below w.heap.size w w'):rC w' v n p:=by
 by_cases h0:n=0
 ·rcases h with h|⟨h1,-⟩|⟨h1,-⟩
  ·exact .inl h
  ·exact absurd h0 h1
  ·exact absurd h0 h1
 ·exact h.later (hb h0)
theorem ajA(v:Value)(n:Int)(w:World)(h:rC w v n (-1))(hg:vY w) :
  Calls Tryz.prog 6 #[v,aU n] w fun e w'=>e=.returned (.bool true)∧Below w.heap.size w w':=by
 have H:=bW h;have HG:=bW hg;clear h hg;go_enter Tryz.func6,Tryz.ntmps6;go_wp2_with fail;refine(Yk _ _).mono ?_;rintro e w1 ⟨rfl,hb⟩;have HB:=bW hb;clear hb;go_wp2_with fail;refine(is_same _ _ _ _ (H.out.later HB.out) (HG.out.later HB.out)).mono ?_;rintro e w2 ⟨rfl,hb⟩;have HB2:=bW (HB.out.trans (hb.mono HB.out.size));clear hb;go_wp2_with fail;go_ret
 exact⟨rfl,HB2.out⟩
theorem aD7{w:World}{B:Nat}{v:Value}{l:List Int}(h:w.ownsRow B 2 1 v l.length (l.map (Value.int .i64))):∃ og cap,v=.slice og l.length cap∧l.length≤maxLen∧∀ i x,l[i]?=some x→∃ g,og=some ⟨g,0,none⟩∧g<w.heap.size∧w.cell? ⟨g,i,none⟩=some (aU x):=by
 have hr:=h;rcases h.2 with ⟨rfl,h0⟩|⟨g,cap,cur,rfl,_,hg,hc1,hc2,_⟩
 ·refine⟨none,0,by rw[h0],by omega,fun i x hx=>?_⟩;have:=(List.getElem?_eq_some_iff.1 hx).1;omega
 ·refine⟨_,cap,rfl,Nat.le_trans hc1 hc2,fun i x hx=>⟨g,rfl,(hr.lt g rfl).2,?_⟩⟩;rcases hr.2 with ⟨h0,h1⟩|⟨g',cap',cur',h0,_,hg',hc,_,hs,hx'⟩
  ·cases h0
  ·injection h0 with h0 _ _
   injection h0 with h0;injection h0 with h0
   subst h0;rw[cell_of_row w g i cur' 2 (0,0) hg'];have e1:(cur'.toList.take (l.length*1))[i]?=some (aU x):=by rw[hx',List.getElem?_map,hx];rfl
   rw[List.getElem?_take]at e1;split at e1
   ·simpa using e1
   ·cases e1
theorem aMy{u v:Value}{l:List Int}{w:World}{B B':Nat}(hu:w.ownsRow B 2 1 u l.length (l.map (Value.int .i64)))(hv:w.ownsRow B' 2 1 v l.length (l.map (Value.int .i64))) :
  Calls Tryz.prog 51 #[u,v] w fun e w'=>e=.returned (.bool true)∧Below w.heap.size w w':=by
 obtain⟨ou,cu,rfl,hmx,hcu⟩:=aD7 hu;obtain⟨ov,cv,rfl,-,hcv⟩:=aD7 hv;obtain⟨n,hn⟩:∃ n,l.length=n:=⟨_,rfl⟩;rw[hn];have hn9:n≤9223372036854775807:=by rw[←hn];unfold maxLen at hmx;omega
 clear hmx;have HU:=bW hcu;have HV:=bW hcv;have HN:=bW hn;clear hu hv hcu hcv hn;go_enter Tryz.func51,Tryz.ntmps51;go_wp2_with fail;go_loopw [5] (fun y wr=>∃ i:Nat,y=aU i∧i≤n∧Below w.heap.size w wr) (fun y _=>n-(intOf y).toNat)
 case atStart=>exact⟨0,rfl,Nat.zero_le _,Below.refl _ _⟩
 case round =>
  obtain⟨i,rfl,hi,hb⟩:=hrel;have HB:=bW hb;clear hb;by_cases h:i<n
  ·have hk1:(i:Int)<n:=bQ;obtain⟨x,hx⟩:∃ x,l[i]?=some x:=⟨_,List.getElem?_eq_getElem ac3⟩;obtain⟨g,rfl,zg,q1⟩:=HU.out i x hx;obtain⟨g',rfl,zg',q2⟩:=HV.out i x hx;have q3:wr.cell? ⟨g,i,none⟩=some (aU x):=(HB.out.cell (p:=⟨g,i,none⟩) zg).trans q1;have q4:wr.cell? ⟨g',i,none⟩=some (aU x):=(HB.out.cell (p:=⟨g',i,none⟩) zg').trans q2;clear q1 q2 hx;go_upto_region 6 with fail;go_region;go_wp2_with fail;refine⟨⟨i+1,by go_num,by omega,HB.out.drew⟩,?_⟩;exact atK
  ·obtain rfl:i=n:=bQ;go_wp2_with fail;go_ret
   exact⟨rfl,HB.out⟩
theorem aD8{u v:Value}{s:Sd}{w:World}{B B':Nat}(hu:w.ownsRow B 2 1 u s.out.length (s.out.map (Value.int .i64)))(hv:w.ownsRow B' 2 1 v s.out.length (s.out.map (Value.int .i64))) :
  Calls Tryz.prog 29 #[.agg #[aU s.oW,aU s.num,u,aU s.steps],.agg #[aU s.oW,aU s.num,v,aU s.steps]] w fun e w'=>e=.returned (.bool true)∧Below w.heap.size w w':=by
 obtain⟨ou,cu,rfl⟩:=pI hu;obtain⟨ov,cv,rfl⟩:=pI hv;have C:=bW (fun W (hb:Below w.heap.size w W)=>aMy (ED hu hb) (ED hv hb));clear hu hv;go_enter Tryz.func29,Tryz.ntmps29;go_wp2_with (go_at_call 51;refine(C.out _ (((Below.refl w.heap.size w).alloc (Nat.le_refl _) _).alloc dY _)).mono ?_;rintro e w2 ⟨rfl,hb⟩;have HB:=bW hb;clear hb);go_ret
 exact⟨rfl,(((Below.refl w.heap.size w).alloc (Nat.le_refl _) _).alloc dY _).trans (HB.out.mono eU)⟩
structure PlaysAt(w0:World)(D R:Nat)(Cs:Nat→Nat)(d e:HD)(vs qs:Nat→Value)(dO:Nat→List (HP × Value))(oU nP:Nat→Value)(lX:Nat→List RP)(w:World):Prop where
 iQ:lC w D d vs qs dO
 JL:xX w R e Cs oU nP lX
 own:∀ b,kQ D vs qs b→w0.heap.size≤b
 aor:∀ b,qo R Cs nP lX b→w0.heap.size≤b
 below:Below w0.heap.size w0 w
section
variable{w0 w w':World}{D R:Nat}{Cs:Nat→Nat}{d e d':HD}{vs qs vs' iW:Nat→Value}{dO iP:Nat→List (HP × Value)}{oU nP aEs avQ:Nat→Value}{lX avR:Nat→List RP}
theorem qo.some(h:xX w R e Cs oU nP lX){b:Nat}(hb:qo R Cs nP lX b):∃ t,Typed w b t:=by
 rcases hb with rfl|⟨k,hk,hb|hb⟩
 ·exact⟨_,h.typed⟩
 ·rcases iT.kind (h.chain k hk) hb with hb|hb
  ·exact⟨_,hb⟩
  ·exact⟨_,hb⟩
 ·exact⟨_,(h.queue k hk).typed b hb⟩
theorem PlaysAt.apart(h:PlaysAt w0 D R Cs d e vs qs dO oU nP lX w){b:Nat}(hb:qo R Cs nP lX b):¬kQ D vs qs b:=fun ho=>by
 obtain⟨t,ht⟩:=qo.some h.JL hb;have h1:=qo.kind h.JL hb ht;have h2:=kQ.kind h.iQ ho ht;rcases h1 with rfl|rfl|rfl|rfl<;>(revert h2;decide)
theorem PlaysAt.hook(h:PlaysAt w0 D R Cs d e vs qs dO oU nP lX w)(hd:lC w' D d' vs' iW iP)(hf:dQ (kQ D vs qs) w w')(ho:∀ b,kQ D vs' iW b→kQ D vs qs b∨w.heap.size≤b):PlaysAt w0 D R Cs d' e vs' iW iP oU nP lX w':=by
 have hz:=h.below.size;refine⟨hd,h.JL.fG hf (fun b hb=>h.apart hb) (fun k ht ho=>?_) (fun k ht ho=>?_),fun b hb=>?_,h.aor,h.below.trans (hf.below hz fun k hk=>h.own k hk)⟩
 ·exact kQ.aNp h.iQ ho ht
 ·have:=kQ.kind h.iQ ho ht;revert this;decide
 ·rcases ho b hb with x|x
  ·exact h.own b x
  ·omega
theorem PlaysAt.ref(h:PlaysAt w0 D R Cs d e vs qs dO oU nP lX w)(hd:xX w' R d' Cs aEs avQ avR)(hf:dQ (qo R Cs nP lX) w w')(ho:∀ b,qo R Cs avQ avR b→qo R Cs nP lX b∨w.heap.size≤b):PlaysAt w0 D R Cs d d' vs qs dO aEs avQ avR w':=by
 have hz:=h.below.size;refine⟨h.iQ.fG hf (fun b hb hr=>h.apart hr hb) (fun k ht hr=>?_),hd,h.own,fun b hb=>?_,h.below.trans (hf.below hz fun k hk=>h.aor k hk)⟩
 ·have:=qo.kind h.JL hr ht;revert this;decide
 ·rcases ho b hb with x|x
  ·exact h.aor b x
  ·omega
theorem PlaysAt.later(h:PlaysAt w0 D R Cs d e vs qs dO oU nP lX w)(hb:Below w.heap.size w w'):PlaysAt w0 D R Cs d e vs qs dO oU nP lX w' :=
 ⟨h.iQ.later hb,h.JL.later hb,h.own,h.aor,h.below.trans (hb.mono h.below.size)⟩
end
def aos(t:TypeId):Prop:=t≠78∧t≠106∧t≠125∧t≠46∧t≠52∧t≠59∧t≠34
theorem aNq:aos 36:=by unfold aos;decide
theorem aNr:aos 63:=by unfold aos;decide
def Kept(w w':World):Prop:=∀ (b:Nat) (c:Array Value) (t:TypeId),aos t→w.heap[b]?=some (Obj.cells c t (0,0))→w'.heap[b]?=some (Obj.cells c t (0,0))
theorem Kept.of{w w':World}(hb:Below w.heap.size w w'):Kept w w':=fun b c t _ h=>(hb.block b (Array.getElem?_eq_some_iff.1 h).1).trans h
theorem an6{w0 w w':World}{D R:Nat}{Cs:Nat→Nat}{d e:HD}{vs qs:Nat→Value}{dO:Nat→List (HP × Value)}{oU nP:Nat→Value}{lX:Nat→List RP}(h:PlaysAt w0 D R Cs d e vs qs dO oU nP lX w)(hf:dQ (kQ D vs qs) w w'):Kept w w':=fun b c t ht hb=>(hf.block b (Array.getElem?_eq_some_iff.1 hb).1 fun ho=>by
 obtain⟨h1,h2,h3,-⟩:=ht
 rcases kQ.kind h.iQ ho ⟨c,hb⟩with x|x|x
 ·exact h1 x
 ·exact h2 x
 ·exact h3 x).trans hb
theorem auk{w0 w w':World}{D R:Nat}{Cs:Nat→Nat}{d e:HD}{vs qs:Nat→Value}{dO:Nat→List (HP × Value)}{oU nP:Nat→Value}{lX:Nat→List RP}(h:PlaysAt w0 D R Cs d e vs qs dO oU nP lX w)(hf:dQ (qo R Cs nP lX) w w'):Kept w w':=fun b c t ht hb=>(hf.block b (Array.getElem?_eq_some_iff.1 hb).1 fun ho=>by
 obtain⟨-,-,-,h1,h2,h3,h4⟩:=ht
 rcases qo.kind h.JL ho ⟨c,hb⟩with x|x|x|x
 ·exact h1 x
 ·exact h2 x
 ·exact h3 x
 ·exact h4 x).trans hb
def gJ(w0:World)(D R:Nat)(Cs:Nat→Nat)(d e:HD)(w:World):Prop:=∃ vs qs dO oU nP lX,PlaysAt w0 D R Cs d e vs qs dO oU nP lX w
section
variable{w0 w w':World}{D R:Nat}{Cs:Nat→Nat}{d e:HD}
theorem gJ.later(h:gJ w0 D R Cs d e w)(hb:Below w.heap.size w w'):gJ w0 D R Cs d e w':=by
 obtain⟨vs,qs,dO,oU,nP,lX,h⟩:=h;exact⟨vs,qs,dO,oU,nP,lX,h.later hb⟩
theorem gJ.below(h:gJ w0 D R Cs d e w):Below w0.heap.size w0 w:=by
 obtain⟨vs,qs,dO,oU,nP,lX,h⟩:=h;exact h.below
theorem avS{oa:Option Addr}{L:List Step}(hs:xY w0 oa (nth L) L.length){M:Nat→Prop}(hM:∀ b,M b→w0.heap.size≤b):0<L.length→∀ a,oa=some a→¬M a.block:=fun h0 a ha hm=>by
 obtain⟨a',ha',hc⟩:=hs bQ;rw[ha]at ha';cases ha';have hb:a.block<w0.heap.size:=block_lt_of_cell (hc 0 bQ).1;have:=hM _ hm;omega
theorem gJ.chain(h:gJ w0 D R Cs d e w){k:Nat}(hk:k<3):Calls Tryz.prog 9 #[.pointer (some ⟨D,0,none⟩),aU k] w fun r w'=>r=.returned (.tuple #[.pointer (some ⟨D,k*2,none⟩),.nilIface])∧w'=w:=by
 obtain⟨vs,qs,dO,oU,nP,lX,h⟩:=h;exact aGG h.iQ k hk
theorem gJ.attach(h:gJ w0 D R Cs d e w){k:Nat}(hk:k<3){oa:Option Addr}{cap:Nat}{L:List Step}(rank:Int)(hcap:L.length≤cap)(hs:xY w0 oa (nth L) L.length)(hin:∀ j,j<L.length→In64 (nth L j).off∧In64 (nth L j).num)(hg:vY w0)(hnx:0≤(d.c k).next∧(d.c k).next<1000000) :
  Calls Tryz.prog 21 #[.pointer (some ⟨D,k*2,none⟩),.slice oa L.length cap,aU rank] w fun r w'=>(∃ er,r=.returned (.tuple #[aU ((d.c k).attach L rank).2.1,er])∧rC w' er ((d.c k).attach L rank).2.2.1 ((d.c k).attach L rank).2.2.2)∧(gJ w0 D R Cs (d.attach k L rank) e w'∧Kept w w'):=by
 obtain⟨vs,qs,dO,oU,nP,lX,h⟩:=h;have hs':=hs.later h.below;have hg':vY w:=hg.later h.below;by_cases h0:L.length=0
 ·have hv:(verify (nth L) L.length).1.1≠0:=fun e=>by have:=aeK e;omega
  have e1:(d.c k).attach L rank=(d.c k,0,(verify (nth L) L.length).1):=auU;have e2:d.attach k L rank=d:=by unfold HD.attach;rw[e1];simp only[aqL]
  rw[e2,e1];exact(aCP _ oa cap L rank w hcap hs' hin hg' hv).mono fun e w' ⟨he,hb⟩=>⟨he,⟨vs,qs,dO,oU,nP,lX,h.later hb⟩,Kept.of hb⟩
 ·exact(aKV h.iQ k hk oa cap L rank hcap hs' (avS hs h.own bQ) hin hg' hnx).mono fun e w' ⟨he,vs',iP,h1,h2,h3⟩=>⟨he,⟨vs',qs,iP,oU,nP,lX,h.hook h1 h2 h3⟩,an6 h h2⟩
theorem gJ.aNs(h:gJ w0 D R Cs d e w)(hdc:∀ k,k<3→Sorted (e.c k).l){k:Nat}(hk:k<3){oa:Option Addr}{cap:Nat}{L:List Step}(rank:Int)(hcap:L.length≤cap)(hs:xY w0 oa (nth L) L.length)(hin:∀ j,j<L.length→In64 (nth L j).off∧In64 (nth L j).num)(hg:nH w0)(hnx:0≤(e.c k).next∧(e.c k).next<1000000) :
  Calls Tryz.prog 20 #[.pointer (some ⟨Cs k,0,none⟩),.slice oa L.length cap,aU rank] w fun r w'=>r=.returned (.tuple #[aU ((e.c k).attach L rank).2.1,.agg #[aU ((e.c k).attach L rank).2.2.1,aU ((e.c k).attach L rank).2.2.2]])∧(gJ w0 D R Cs d (e.attach k L rank) w'∧Kept w w'):=by
 obtain⟨vs,qs,dO,oU,nP,lX,h⟩:=h;have hap:∀ b,b=Cs k→w0.heap.size≤b:=fun b hb=>h.aor b (.inr ⟨k,hk,.inl (.inl hb)⟩);refine(aJo (h.JL.chain k hk) (hdc k hk) oa cap L rank hcap (hs.later h.below) (fun h0 a ha e=>avS hs hap h0 a ha e) hin (hg.later h.below) hnx).mono fun r w' ⟨he,v',jQ,h1,h2,h3⟩=>⟨he,?_⟩;exact auj
theorem gJ.detach(h:gJ w0 D R Cs d e w){k:Nat}(hk:k<3)(id:Int) :
  Calls Tryz.prog 22 #[.pointer (some ⟨D,k*2,none⟩),aU id] w fun r w'=>(∃ er,r=.returned er∧rC w' er ((d.c k).detach id).2 (-1))∧(gJ w0 D R Cs (d.detach k id) e w'∧Kept w w'):=by
 obtain⟨vs,qs,dO,oU,nP,lX,h⟩:=h;exact(aMl h.iQ k hk id).mono fun r w' ⟨he,vs',iP,h1,h2,h3⟩=>⟨he,⟨vs',qs,iP,oU,nP,lX,h.hook h1 h2 h3⟩,an6 h h2⟩
theorem gJ.aNt(h:gJ w0 D R Cs d e w){k:Nat}(hk:k<3)(ahh:((e.c k).l.map (·.id)).Nodup)(h8:(e.c k).l.length≤8)(id:Int) :
  Calls Tryz.prog 23 #[.pointer (some ⟨Cs k,0,none⟩),aU id] w fun r w'=>r=.returned (aU ((e.c k).detach id).2)∧(gJ w0 D R Cs d (e.detach k id) w'∧Kept w w')∧(((e.c k).detach id).2≠0→Below w.heap.size w w'):=by
 obtain⟨vs,qs,dO,oU,nP,lX,h⟩:=h;have hc:=h.JL.chain k hk;refine(aKF hc aBz ahh id).mono fun r w' ⟨he,⟨v',jQ,h1,h2,h3⟩,hb⟩=>⟨he,?_,hb⟩;exact auj
theorem gJ.replace(h:gJ w0 D R Cs d e w){k:Nat}(hk:k<3)(id:Int){oa:Option Addr}{cap:Nat}{L:List Step}(hcap:L.length≤cap)(hs:xY w0 oa (nth L) L.length)(hin:∀ j,j<L.length→In64 (nth L j).off∧In64 (nth L j).num)(hg:vY w0) :
  Calls Tryz.prog 24 #[.pointer (some ⟨D,k*2,none⟩),aU id,.slice oa L.length cap] w fun r w'=>(∃ er,r=.returned er∧rC w' er ((d.c k).replace id L).2.1 ((d.c k).replace id L).2.2)∧(gJ w0 D R Cs (d.replace k id L) e w'∧Kept w w'):=by
 obtain⟨vs,qs,dO,oU,nP,lX,h⟩:=h;exact(aKk h.iQ k hk id oa cap L hcap (hs.later h.below) (avS hs h.own) hin (hg.later h.below)).mono fun r w' ⟨he,iP,h1,h2⟩=>⟨he,⟨vs,qs,iP,oU,nP,lX,h.hook h1 h2 fun b hb=>.inl hb⟩,an6 h h2⟩
theorem gJ.aNu(h:gJ w0 D R Cs d e w){k:Nat}(hk:k<3)(h8:(e.c k).l.length≤8)(id:Int){oa:Option Addr}{cap:Nat}{L:List Step}(hcap:L.length≤cap)(hs:xY w0 oa (nth L) L.length)(hin:∀ j,j<L.length→In64 (nth L j).off∧In64 (nth L j).num)(hg:nH w0) :
  Calls Tryz.prog 25 #[.pointer (some ⟨Cs k,0,none⟩),aU id,.slice oa L.length cap] w fun r w'=>r=.returned (.agg #[aU ((e.c k).replace id L).2.1,aU ((e.c k).replace id L).2.2])∧(gJ w0 D R Cs d (e.replace k id L) w'∧Kept w w')∧(((e.c k).replace id L).2.1≠0→Below w.heap.size w w'):=by
 obtain⟨vs,qs,dO,oU,nP,lX,h⟩:=h;have hc:=h.JL.chain k hk;refine(aH5 hc aBz id oa cap L hcap (hs.later h.below) hin (hg.later h.below)).mono fun r w' ⟨he,⟨jQ,h1,h2,h3⟩,hb⟩=>⟨he,?_,hb⟩;exact auj
def avT(d:HD)(k:Nat):Int:=if 20≤(d.q k).length then 12 else 0
theorem gJ.event(h:gJ w0 D R Cs d e w){k:Nat}(hk:k<3)(told:Nat→Int) :
  Calls Tryz.prog 19 #[.pointer (some ⟨D,0,none⟩),aU k,.agg (t8 told).toArray] w fun r w'=>(∃ er,r=.returned er∧∀ W,rC W er (avT d k) (-1))∧(gJ w0 D R Cs (d.event k told) e w'∧Kept w w'):=by
 obtain⟨vs,qs,dO,oU,nP,lX,h⟩:=h;unfold avT;by_cases hq:20≤(d.q k).length
 ·rw[dB hq,show d.event k told=d by unfold HD.event;rw[dB hq]];exact(aGf h.iQ k hk told hq).mono fun r w' ⟨he,hb⟩=>⟨⟨_,he,fun W=>.inr (.inl ⟨by decide,rfl,rfl⟩)⟩,⟨vs,qs,dO,oU,nP,lX,h.later hb⟩,Kept.of hb⟩
 ·rw[dw hq];exact(aGe h.iQ k hk told bQ).mono fun r w' ⟨he,iW,h1,h2,h3⟩=>⟨⟨_,he,fun W=>.inl ⟨rfl,rfl,rfl⟩⟩,⟨vs,iW,dO,oU,nP,lX,h.hook h1 h2 h3⟩,an6 h h2⟩
theorem gJ.aNv(h:gJ w0 D R Cs d e w){k:Nat}(hk:k<3)(told:Nat→Int) :
  Calls Tryz.prog 26 #[.pointer (some ⟨R,0,none⟩),aU k,.agg (t8 told).toArray] w fun r w'=>r=.returned (aU (avT e k))∧(gJ w0 D R Cs d (e.event k told) w'∧Kept w w'):=by
 obtain⟨vs,qs,dO,oU,nP,lX,h⟩:=h;exact(aKH h.JL k hk told).mono fun r w' ⟨he,iW,h1,h2,h3⟩=>⟨he,⟨vs,qs,dO,oU,_,lX,h.ref h1 h2 h3⟩,auk h h2⟩
end
end Go.Proofs.YtglilddlhibogaaGreatDoor.W
namespace Go.Proofs.YtglilddlhibogaaGreatDoor.W
open Go.RowKit Go.Proofs.YtglilddlhibogaaGreatDoor.P
section
variable{w0 w w':World}{D R:Nat}{Cs:Nat→Nat}{d e:HD}
theorem gJ.aLk(h:gJ w0 D R Cs d e w){B:Int}(hT:Za B e)(hB:B≤900000) :
  Calls Tryz.prog 27 #[.pointer (some ⟨R,0,none⟩)] w fun r w'=>∃ y L,r=.returned y∧Um w' w.heap.size L y∧L.map (fun x=>(x.1,x.2.1))=e.done∧gJ w0 D R Cs d e.round w':=by
 obtain⟨vs,qs,dO,oU,nP,lX,h⟩:=h;exact(aLl h.JL hT hB).mono fun r w' ⟨y,iW,iP,L,he,hr⟩=>⟨y,L,he,hr.Kz,hr.eq,vs,qs,dO,oU,iW,iP,h.ref hr.iQ hr.fG hr.own⟩
theorem gJ.round(h:gJ w0 D R Cs d e w){B:Int}(hT:Za B d)(hB:B≤900000)(hg:vY w0) :
  Calls Tryz.prog 28 #[.pointer (some ⟨D,0,none⟩)] w fun r w'=>∃ y L,r=.returned y∧X4 w' w.heap.size L y∧L.map (fun x=>(x.1,x.2.1))=d.done∧gJ w0 D R Cs d.round e w'∧∀ B L y,Um w B L y→Um w' B L y:=by
 obtain⟨vs,qs,dO,oU,nP,lX,h⟩:=h;have hgl:5<w0.heap.size:=block_lt_of_cell hg;have hti:=hT.time;refine(aKX h.iQ (hg.later h.below) (fun ho=>by have:=h.own _ ho;omega) (fun k hk=>by have:=hT.left k hk;omega) (fun k hk=>by have:=hT.Yu k hk;omega) bQ hT.few).mono fun r w' ⟨y,iW,iP,L,he,hr⟩=>⟨y,L,he,hr.Kz,hr.eq,⟨vs,iW,iP,oU,nP,lX,h.hook hr.iQ hr.fG hr.own⟩,fun B L y hd=>hd.fG hr.fG (fun b hb ho=>?_) fun b hb ho=>?_⟩
 ·have:=kQ.kind h.iQ ho (kD hd.row b hb);revert this;decide
 ·have:=kQ.kind h.iQ ho hb;revert this;decide
theorem gJ.run(h:gJ w0 D R Cs d e w){k:Nat}(hk:k<3)(told:Nat→Int)(time:Int)(hg:vY w0) :
  Calls Tryz.prog 30 #[.pointer (some ⟨D,k*2,none⟩),.agg (t8 told).toArray,aU time] w fun r w'=>∃ out,r=.returned (.agg #[aU (hrun told time (d.c k).l .zero).2.oW,aU (hrun told time (d.c k).l .zero).2.num,out,aU (hrun told time (d.c k).l .zero).2.steps]) ∧
   w'.ownsRow w.heap.size 2 1 out (hrun told time (d.c k).l .zero).2.out.length ((hrun told time (d.c k).l .zero).2.out.map (Value.int .i64))∧(gJ w0 D R Cs (d.ran k told time) e w'∧Kept w w'):=by
 obtain⟨vs,qs,dO,oU,nP,lX,h⟩:=h;have hgl:5<w0.heap.size:=block_lt_of_cell hg;have c0:=(h.iQ.img.cell (k*2) bQ).trans (congrArg some (Yq hk).1);have hrow:=(h.iQ.chain k hk).row;refine(aC2 (h.iQ.chain k hk) D (k*2) c0 (fun ex=>(kD hrow D ex).ne h.iQ.typed dS rfl) told time (hg.later h.below) (fun ex=>by have:=h.own _ (.inr ⟨k,hk,.inl ex⟩);omega)).mono fun r w' ⟨out,jQ,he,h1,h2,h3⟩=>⟨out,he,h1,⟨vs,qs,_,oU,nP,lX,h.hook (h.iQ.ran hk h3 h2 rfl) (h3.mono fun b _ eb=>.inr ⟨k,hk,.inl eb⟩) fun b hb=>.inl hb⟩,an6 h (h3.mono fun b _ eb=>.inr ⟨k,hk,.inl eb⟩)⟩
theorem gJ.aLm(h:gJ w0 D R Cs d e w){k:Nat}(hk:k<3)(ok:(e.c k).Ok)(told:Nat→Int)(time:Int)(ht:∀ r,In64 (told r))(um:In64 time) :
  Calls Tryz.prog 31 #[.pointer (some ⟨Cs k,0,none⟩),.agg (t8 told).toArray,aU time] w fun r w'=>∃ out,r=.returned (.agg #[aU (hrun told time (e.c k).l .zero).2.oW,aU (hrun told time (e.c k).l .zero).2.num,out,aU (hrun told time (e.c k).l .zero).2.steps]) ∧
   w'.ownsRow w.heap.size 2 1 out (hrun told time (e.c k).l .zero).2.out.length ((hrun told time (e.c k).l .zero).2.out.map (Value.int .i64))∧(gJ w0 D R Cs d (e.ran k told time) w'∧Kept w w')∧∀ B v n xs,w.ownsRow B 2 1 v n xs→w'.ownsRow B 2 1 v n xs:=by
 obtain⟨vs,qs,dO,oU,nP,lX,h⟩:=h;have hc:=h.JL.chain k hk;refine(aB3 hc ok told time ht um).mono fun r w' ⟨out,jQ,he,h1,h2,h3,h4⟩=>⟨out,he,h1,?_,fun B v n xs hr=>h3.row hr fun b hb ho=>?_⟩
 ·obtain⟨g1,g2,g3⟩:=h.JL.acQ hk h3 h2 fun b hb=>.inl (h4 b hb);exact⟨⟨vs,qs,dO,_,_,_,h.ref g1 g2 g3⟩,auk h g2⟩
 ·rcases iT.kind hc ho with x|x
  ·exact(kD hr b hb).ne x dS rfl
  ·exact(kD hr b hb).ne x dS rfl
theorem gJ.waits(h:gJ w0 D R Cs d e w){k:Nat}(hk:k<3):Calls Tryz.prog 10 #[.pointer (some ⟨D,0,none⟩),aU k] w fun r w'=>r=.returned (aU (d.q k).length)∧w'=w:=by
 obtain⟨vs,qs,dO,oU,nP,lX,h⟩:=h;exact aGH h.iQ k hk
theorem gJ.left(h:gJ w0 D R Cs d e w){k:Nat}(hk:k<3):Calls Tryz.prog 11 #[.pointer (some ⟨D,0,none⟩),aU k] w fun r w'=>r=.returned (aU (d.left k))∧w'=w:=by
 obtain⟨vs,qs,dO,oU,nP,lX,h⟩:=h;exact aGJ h.iQ k hk
theorem gJ.programs(h:gJ w0 D R Cs d e w){k:Nat}(hk:k<3):Calls Tryz.prog 12 #[.pointer (some ⟨D,k*2,none⟩)] w fun r w'=>∃ y,r=.returned y∧w'.ownsRow w.heap.size 3 1 y (d.c k).l.length ((d.c k).l.map fun p=>aU p.id)∧Below w.heap.size w w':=by
 obtain⟨vs,qs,dO,oU,nP,lX,h⟩:=h;exact aKl (h.iQ.chain k hk) D (k*2) ((h.iQ.img.cell (k*2) bQ).trans (congrArg some (Yq hk).1))
theorem gJ.cells(h:gJ w0 D R Cs d e w){k:Nat}(hk:k<3)(id:Int){p:HP}(hf:(d.c k).l[hfind (d.c k).l id]?=some p):Calls Tryz.prog 13 #[.pointer (some ⟨D,k*2,none⟩),aU id] w fun r w'=>r=.returned (.tuple #[.agg (lV p.cells).toArray,.nilIface])∧Below w.heap.size w w':=by
 obtain⟨vs,qs,dO,oU,nP,lX,h⟩:=h;exact aLn (h.iQ.chain k hk) D (k*2) ((h.iQ.img.cell (k*2) bQ).trans (congrArg some (Yq hk).1)) id hf
theorem gJ.aIw(h:gJ w0 D R Cs d e w){k:Nat}(hk:k<3)(id:Int)(hf:¬hfind (d.c k).l id<(d.c k).l.length):Calls Tryz.prog 13 #[.pointer (some ⟨D,k*2,none⟩),aU id] w fun r w'=>r=.returned (.tuple #[.agg (lV fun _=>0).toArray,.iface 30 (aU 7)])∧Below w.heap.size w w':=by
 obtain⟨vs,qs,dO,oU,nP,lX,h⟩:=h;exact aLo (h.iQ.chain k hk) D (k*2) ((h.iQ.img.cell (k*2) bQ).trans (congrArg some (Yq hk).1)) id hf
theorem gJ.sorted(h:gJ w0 D R Cs d e w):∀ k,k<3→Sorted (d.c k).l:=by
 obtain⟨vs,qs,dO,oU,nP,lX,h⟩:=h;exact fun k hk=>(h.iQ.chain k hk).sorted
theorem gJ.reads(h:gJ w0 D R Cs d e w){k:Nat}(hk:k<3):w.cell? ⟨R,k,none⟩=some (.pointer (some ⟨Cs k,0,none⟩))∧(∃ og cap,w.cell? ⟨R,3+k,none⟩=some (.slice og (e.q k).length cap))∧w.cell? ⟨R,9+k,none⟩=some (aU (e.left k)) ∧
  ∃ og cap,w.cell? ⟨Cs k,0,none⟩=some (.slice og (e.c k).l.length cap)∧∀ (j:Nat) (p:HP),(e.c k).l[j]?=some p→∃ g b,og=some ⟨g,0,none⟩∧w.cell? ⟨g,j,none⟩=some (.pointer (some ⟨b,0,none⟩))∧w.cell? ⟨b,0,none⟩=some (aU p.id)∧w.rangeAt b 3 (lV p.cells):=by
 obtain⟨vs,qs,dO,oU,nP,lX,h⟩:=h;have hc:=h.JL.chain k hk;obtain⟨oq,cq,hq⟩:=(h.JL.queue k hk).form;obtain⟨og,cap,hv,hcl⟩:=hc.form;have hlen:(lX k).length=(e.c k).l.length:=by rw[←hc.l,List.length_map]
 refine⟨(h.JL.img.cell k bQ).trans (congrArg some (ayg hk)),⟨oq,cq,(h.JL.img.cell (3+k) bQ).trans (congrArg some ((agV hk).trans hq))⟩,(h.JL.img.cell (9+k) bQ).trans (congrArg some (aro hk)),og,cap,by rw[hc.cell0,hv,hlen],fun j p hp=>?_⟩;rw[←hc.l,List.getElem?_map]at hp;cases hx:(lX k)[j]? with
 |none=>rw[hx]at hp;cases hp
 |some x =>
  rw[hx]at hp;injection hp with hp
  subst hp;obtain⟨g,e1,-,e2⟩:=hcl j x hx;have hpx:=hc.LP x (List.mem_of_getElem? hx);refine⟨g,x.2.1,e1,e2,hpx.cell 0,fun j u hj=>?_⟩;rw[hpx.cell (3+j),←hj];show(TF x.1.id x.1.rank x.2.2 x.1.cells)[3+j]?=_;have hp:TF x.1.id x.1.rank x.2.2 x.1.cells=[aU x.1.id,aU x.1.rank,x.2.2]++lV x.1.cells:=rfl;rw[hp,List.getElem?_append_right dY];simp
end
end Go.Proofs.YtglilddlhibogaaGreatDoor.W
