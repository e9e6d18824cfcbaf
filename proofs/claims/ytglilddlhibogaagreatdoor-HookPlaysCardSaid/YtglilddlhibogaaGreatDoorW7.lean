/- A part of the proof; each theorem states its conditions. -/
import Derived.Test.YtglilddlhibogaaGreatDoorW2
import Derived.Test.YtglilddlhibogaaGreatDoorW4
import Derived.Test.YtglilddlhibogaaGreatDoorWalkRefN
set_option linter.unusedSimpArgs false
set_option linter.unusedVariables false
set_option maxRecDepth 100000
set_option maxHeartbeats 100000000
namespace Go.Proofs.YtglilddlhibogaaGreatDoor.W
open Go.RowKit Go.Proofs.YtglilddlhibogaaGreatDoor.P
theorem asv{α:Type}(f:Nat→α)(i:Nat)(u v:α):upd (upd f i u) i v=upd f i v:=by
 exact asw
theorem Ug{v:Value}{w:World}{b:Nat}{code:Value}{k:Wk}(h:AY w b code v k){c:Nat}(hc:w.heap.size≤c):v.ownBlock≠some c:=fun e=>by have:=(h.row e).2;omega
theorem aw7{w:World}{b:Nat}{c d sr:Int}{r:Bool}{o nn:Int}{ty:TypeId}(h:w.heap[b]?=some (.cells #[aU c,aU d,aU sr,.bool r,aU o,aU nn] ty (0,0))):P.Img w b 6 (aei ⟨c,d,sr,r,o,nn⟩):=by
 refine Img.of_cells h iC fun j hj=>?_;exact asx
theorem al6{w:World}{b:Nat}{x:Wh}{ty:TypeId}(h:w.heap[b]?=some (.cells #[.int .u8 (letter x.kind),aU x.b.lo,aU x.b.hi] ty (0,0))):P.Img w b 3 (fV x):=by
 exact asy
theorem aF6(S:Nat→Step)(a:Addr)(n cap b f:Nat)(hcap:n≤cap)(hn2:n≤200)(hab:a.block<b)(hgb:4<b)(IH:aw8 S a n cap b f)(Uh:∀ j,j<n→Ue n j (S j))(s:VS)(pc:Nat)(k:Wk)(v:Value)(w:World)(hs:kG s)(hpc:pc<n)(hf:n≤pc+1+f)(hk0:0≤k.looks)(hk1:k.looks≤4000)(hkl:(k.ends.length:Int)≤k.looks)(hke:∀ e∈k.ends,e.Ok)
  (hg:nH w) (hc:Cells w a S n) (hL:AY w b (.slice (some a) n cap) v k) (ht:Ue n pc (S pc)) (hw:(S pc).wrong=0) (hca:15≤(S pc).code∧(S pc).code≤24) :
  Calls Tryz.prog 104 #[.pointer (some ⟨b,0,none⟩),.agg (iK fV s).toArray,aU pc,.agg #[.int .u8 (letter (s.second (S pc)).kind),aU (s.second (S pc)).b.lo,aU (s.second (S pc)).b.hi]] w
   (asz b (.slice (some a) n cap) v w (J4 (iO S f) pc k (s.asks (S pc) pc))):=by
 refine fU ?_;intro HW0;have hlt:=hL.lt;have c0:w.cell? ⟨b,0,none⟩=some (.slice (some a) n cap):=hL.img.cell 0 bQ;obtain⟨e0,e1,e2,e3,e4,e5⟩:=hc pc hpc;have l0:=block_lt_of_cell e0;have hin:In64 (S pc).num:=ht.2.2;generalize hT:S pc=t at *;obtain⟨c,d,sr,r,o,nn⟩:=t;obtain⟨g1,g2,g3,g4⟩:=aeh hw;simp only at g1 g2 g3 g4 hca e0 e1 e2 e3 e4 e5 hin;obtain⟨d,rfl⟩:=Int.eq_ofNat_of_zero_le g2.1;obtain⟨sr,rfl⟩:=Int.eq_ofNat_of_zero_le g2.2.2.1;refine aoR ?_;intro dN sN d1 s1;have d27:(d:Int)<27:=bQ;have s27:(sr:Int)<27:=bQ;have pc1:(pc:Int)<n:=bQ;have pc2:(pc:Int)<200:=bQ;have pc0:(0:Int)≤pc:=bQ;have OM:iL (s.second ⟨c,d,sr,r,o,nn⟩):=hs.second hin;have WA:iL (s.regs d):=hs.1 d;have HL:=bW hL;have HIH:=bW IH;have HP:=bW Uh;have Ho:=bW hke;have HS:=bW hs;have HC:=bW hc;have HG:=bW hg;have HTT:=bW ht;obtain⟨R,hR⟩:∃ R,s.asks ⟨c,d,sr,r,o,nn⟩ pc=R:=⟨_,rfl⟩;rw[hR];have hx0:=bW (show s.regs d=s.regs d from rfl);obtain⟨x,hX⟩:∃ x,s.regs d=x:=⟨_,rfl⟩;obtain⟨y,hY⟩:∃ y,s.second ⟨c,d,sr,r,o,nn⟩=y:=⟨_,rfl⟩;rw[hY];rw[hX]at WA;rw[hY]at OM;have hR':s.asks ⟨c,d,sr,r,o,nn⟩ pc=R:=hR;unfold VS.asks at hR;simp only[Int.toNat_natCast]at hR;rw[hX,hY]at hR;have HX:=bW hX;have HY:=bW hY;clear hL IH hs hc hg ht hw hT Uh hke hX hY hx0 hR';have hl1:b<w.heap.size+1:=bQ;have hl2:b<w.heap.size+1+1:=bQ;have hl3:b<w.heap.size+1+1+1:=bQ;have la1:(a.add (pc*6)).block<w.heap.size+1:=bQ;have la2:(a.add (pc*6)).block<w.heap.size+1+1:=bQ
 have la3:(a.add (pc*6)).block<w.heap.size+1+1+1:=bQ;go_enter Tryz.func104,Tryz.ntmps104;go_upto_region 2 with fail;clear hl1 hl2 hl3 la1 la2 la3;generalize hW:World.alloc (World.alloc (World.alloc (World.alloc w _) _) _) _=wd;have IS:P.Img wd w.heap.size 81 (gQ fV s):=hW▸((Img.al7.alloc _).alloc _).alloc _;have IY:P.Img wd (w.heap.size+1) 3 (fV y):=hW▸((al6 al8).alloc _).alloc _;have IF:P.Img wd (w.heap.size+1+1) 2 (fun _=>aU 0):=hW▸(Img.alloc (Img.aas aw9) _);have IT:P.Img wd (w.heap.size+1+1+1) 6 (aei ⟨c,d,sr,r,o,nn⟩):=hW▸aw7 (by simpa using heap_alloc_new (World.alloc (World.alloc (World.alloc w _) _) _) _);have hbd:Below w.heap.size w wd:=hW▸(((Below.refl _ _).alloc (Nat.le_refl _) _).alloc dY _ |>.alloc eU _).alloc eU _;clear hW;obtain⟨x0,x1,x2⟩:=agK IS dN;obtain⟨f0,f1,f2,f3,f4,f5⟩:=zM IT;simp only at f0 f1 f2 f3 f4 f5;rw[HX.out]at x0 x1 x2;have zt:=IT.lt bQ;have HIS:=bW IS;have HIY:=bW IY;have Ui:=bW IF;have HIT:=bW IT;have HBD:=bW hbd;clear IS IY IF IT hbd c0 e0 e1 e2 e3 e4 e5 l0;go_upto_region 3 with fail;generalize hW:World.alloc wd _=w2;have hb2:Below wd.heap.size wd w2:=hW▸(Below.refl _ _).alloc (Nat.le_refl _) _;have IA:P.Img w2 wd.heap.size 3 (fV x):=hW▸al6 (heap_alloc_new wd _);clear hW;obtain⟨A,hA⟩:∃ A,A=wd.heap.size:=⟨_,rfl⟩;rw[←hA]at IA hb2 ⊢;have zt':w.heap.size+1+1+1<A:=bQ;have acI:=bW (HIS.out.later hb2 bQ);have axa:=bW (HIY.out.later hb2 bQ)
 have Yn:=bW (Ui.out.later hb2 bQ);have aej:=bW (HIT.out.later hb2 bQ);have HB2:=bW (HBD.out.trans (hb2.mono bQ));have axb:=bW IA;have zA:A<w2.heap.size:=IA.lt bQ;have HL2:=bW ((BL.refl HL.out).later HB2.out);have axc:=bW HC.out;have axd:=bW HG.out;clear hb2 IA x0 x1 x2 f0 f1 f2 f3 f4 f5 HIS HIY Ui HIT HBD hA zt;obtain⟨a0,a1,a2⟩:=aat axb.out;obtain⟨y0,y1,y2⟩:=aat axa.out;obtain⟨f0,f1,f2,f3,f4,f5⟩:=zM aej.out;simp only at f0 f1 f2 f3 f4 f5;have zF:w.heap.size+1+1<w2.heap.size:=bQ;have r0:w2.cell? ⟨w.heap.size+1+1,0,none⟩=some (aU 0):=Yn.out.cell 0 bQ;have r1:w2.cell? ⟨w.heap.size+1+1,1,none⟩=some (aU 0):=Yn.out.cell 1 bQ;have t0:=Yn.out.free 0 bQ;have t1:=Yn.out.free 1 bQ;have Aq:wI x.kind:=WA.1;have Kv:wI y.kind:=OM.1;by_cases h0:x.kind=0∨y.kind=0
 ·rw[dB h0]at hR;subst hR
  as_aux_lemma =>
   have hn:(letter x.kind==0)=true∨((letter x.kind==0)=false∧(letter y.kind==0)=true):=by
    by_cases e:x.kind=0
    ·exact .inl (Kw ((Gp Aq).2 e))
    ·exact .inr ⟨mV (fun h=>e ((Gp Aq).1 h)),Kw ((Gp Kv).2 bQ)⟩
   clear h0 Aq Kv WA OM;rcases hn with q1|⟨q1,q2⟩
   all_goals
    go_wp2_with fail;refine bodyPost_ret (v:=.agg #[aU 8,aU pc]) ?_ rfl ⟨v,rfl,(HL2.out.but (c:=w.heap.size+1+1) ?_ bQ bQ (Ug HL.out bQ))⟩
    ·exact acJ
    ·exact axe
 rw[dw h0]at hR;by_cases h1:x.kind=1∧y.kind=1
 ·rw[dB h1]at hR
  as_aux_lemma =>
   have hxo:=WA.2;have hyo:=OM.2;obtain⟨xk,⟨xl,xh⟩⟩:=x;obtain⟨yk,⟨yl,yh⟩⟩:=y;obtain⟨e1,e2⟩:=h1;simp only at e1 e2 hxo hyo;subst e1;subst e2;replace a0:w2.cell? ⟨A,0,none⟩=some (.int .u8 110):=a0;replace y0:w2.cell? ⟨w.heap.size+1,0,none⟩=some (.int .u8 110):=y0;simp only at a1 a2 y1 y2;refine aoS ?_;intro ol oh;obtain⟨o,rfl⟩:=Int.eq_ofNat_of_zero_le ol;refine aoT ?_;intro s1 s2 Hf Lh;have aPm:(o:Int)<200:=bQ;have Ky:=bW hxo;have OO:=bW hyo;have HAS:Hid (P.asks c=true):=by show P.asks c=true;simp[P.asks];omega
   refine axf ?_;intro X hX Y hY;have hR2:YR.go X Y=R:=by rw[←hX,←hY];exact hR
   subst hR2;refine axg ?_;intro K hK;have hK0:K 0=((0,-1),k):=agL;have hK1:K 1=rU (iO S f) X (K 0).2:=agL;have hK2:K 2=rU (iO S f) Y (K 1).2:=agL;refine axh ?_;intro hKR hKE OQ Uj Yo HKR aoU HX2 HY2;clear hR h0 hX hY hK hK0 hK1 hK2 hKR hKE hxo hyo ol oh OM WA hca Aq Kv;go_upto_region 6 with fail;have k0:=cell_regrown f0;have CO:=bW (show ∀ wd dr os,Calls Tryz.prog 145 #[aU c] (Go.Sort.grow (redrawn wd dr) os) fun e w'=>e=.returned (aU (NU c))∧∃ p:Regrown,w'=Go.Sort.grow (redrawn wd p.d) p.os from fun wd dr os=>Calls.regrown_of (aF7 c HAS.out _));refine aF8 [0,1,2,3,4,7] 5 [6] dF dF ?_;repeat (quiet_step (exact CO.out _ _ _))
   refine wpQuiet_nil ?_;intro wq hwq;have hbq:Below w2.heap.size w2 wq:=by
    exact Q8
   clear hwq k0 CO;have aoV:=bW (acI.out.later hbq bQ);have axi:=bW (axa.out.later hbq bQ);have axj:=bW (Yn.out.later hbq bQ);have axk:=bW (aej.out.later hbq bQ);have axl:=bW (axb.out.later hbq bQ);have HLq:=bW (HL2.out.later hbq);have zq:w2.heap.size≤wq.heap.size:=hbq.size;clear hbq f0 f1 f2 f3 f4 f5 a0 a1 a2 y0 y1 y2 r0 r1 t0 t1;go_wp2_with fail;refine NoPanic.normal ?_;generalize hW:World.alloc wq _=w3;obtain⟨Q,hQ⟩:∃ Q,Q=wq.heap.size:=⟨_,rfl⟩;have IQ:P.Img w3 wq.heap.size 2 (fun j=>if j=0 then aU (NU c)else aU c):=by
    rw[←hW];refine Img.of_cells (heap_alloc_new wq _) iC fun j hj=>?_;rcases j with _|_|j
    ·rfl
    ·rfl
    ·omega
   have hb3:Below wq.heap.size wq w3:=hW▸(Below.refl _ _).alloc (Nat.le_refl _) _;clear hW;rw[←hQ]at IQ hb3 ⊢;have Uc:=bW (aoV.out.later hb3 bQ);have aF9:=bW (axi.out.later hb3 bQ);have acK:=bW (axj.out.later hb3 bQ);have EK:=bW (axk.out.later hb3 bQ);have Uk:=bW (axl.out.later hb3 bQ);have aGa:=bW IQ;have CY:=bW (HLq.out.later (hQ▸hb3));have zQ:Q<w3.heap.size:=IQ.lt bQ;have zAQ:A<Q:=bQ;clear hb3 IQ aoV axi axj axk axl HLq hQ zq;have nr3:=bW (show ∀ c',w.heap.size≤c'→c'<w3.heap.size→v.ownBlock≠some c' from fun c' h1 h2=>Ug HL.out h1);go_wp2_with fail;go_loopw [57] (fun i wr=>∃ (j:Nat) (k':Wk) (v':Value),j≤2∧i=aU j∧(j=2→(K 1).1.1=0)∧(K j).1.1=0∧(K j).1.2=-1∧k'=(K j).2∧0≤k'.looks∧k'.looks≤4000∧(k'.ends.length:Int)≤k'.looks∧(∀ e∈k'.ends,e.Ok)∧(∀ c',w.heap.size≤c'→c'<w3.heap.size→v'.ownBlock≠some c')∧BL b (.slice (some a) n cap) v w3 v' k' wr) (fun i _=>2-(intOf i).toNat)
   case atStart=>exact⟨0,k,v,by omega,rfl,fun h=>by omega,by rw[OQ.out],by rw[OQ.out],by rw[OQ.out],hk0,hk1,hkl,Ho.out,nr3.out,BL.refl CY.out.look⟩
   case round =>
    obtain⟨j,k',v',hj,rfl,al9,hj0,hjp,hk',hk0',Iu,hkl',aau,hnr,hLr⟩:=hrel;have asA:=bW al9;have TY:=bW hj0;have HJP:=bW hjp;have HKK:=bW hk';have G8:=bW aau;have HNR:=bW hnr;have asB:=bW (hLr.img Uc.out bQ bQ (nr3.out _ bQ bQ));have aoW:=bW (hLr.img aF9.out bQ bQ (nr3.out _ bQ bQ));have acL:=bW (hLr.img acK.out bQ bQ (nr3.out _ bQ bQ));have aoX:=bW (hLr.img EK.out bQ bQ (nr3.out _ bQ bQ));have aoY:=bW (hLr.img Uk.out bQ bQ (nr3.out _ bQ bQ));have ama:=bW (hLr.img aGa.out bQ bQ (nr3.out _ bQ bQ));have HLr:=bW hLr;obtain⟨f0,f1,f2,f3,f4,f5⟩:=zM aoX.out;obtain⟨a0,a1,a2⟩:=aat aoY.out;obtain⟨y0,y1,y2⟩:=aat aoW.out;simp only at f0 f1 f2 f3 f4 f5 a0 a1 a2 y0 y1 y2;have zr:w3.heap.size≤wr.heap.size:=hLr.size;have r0:wr.cell? ⟨w.heap.size+1+1,0,none⟩=some (aU 0):=acL.out.cell 0 bQ;have r1:wr.cell? ⟨w.heap.size+1+1,1,none⟩=some (aU 0):=acL.out.cell 1 bQ;have t0:=acL.out.free 0 bQ;have t1:=acL.out.free 1 bQ;clear al9 hj0 hjp hk' aau hnr hLr;by_cases hj2:j<2
    ·have hj3:(j:Int)<2:=bQ;have asC:j=0∨j=1:=bQ;clear r0 r1 t0 t1;rcases asC with rfl|rfl
     ·as_aux_lemma =>
       have ci:wr.cell? ⟨Q,0,none⟩=some (aU (NU c)):=ama.out.cell 0 bQ;have CN:=bW (fun w=>axn (NU c) xl xh yl yh Ky.out.1 Ky.out.2.1 OO.out.1 OO.out.2.1 Ky.out.2.2 OO.out.2.2 w);obtain⟨Nr,O5⟩:∃ Nr,eX (NU c) ⟨xl,xh⟩ ⟨yl,yh⟩=Nr:=⟨_,rfl⟩;rw[O5]at CN;have Rx:=bW O5;clear O5;obtain⟨⟨pl,ph⟩,⟨ql,qh⟩,ok⟩:=Nr;simp only at CN;go_wp2_with fail;refine axo ?_;intro w4 hb4 EL acM Ci yY NV agN Dv z4;obtain⟨f0,f1,f2,f3,f4,f5⟩:=zM yY.out;obtain⟨a0,a1,a2⟩:=aat NV.out;simp only at f0 f1 f2 f3 f4 f5 a0 a1 a2;clear hb4 CN ci asB aoW acL aoX aoY ama HLr;cases ok with
       |false =>
        as_aux_lemma =>
         have Yp:X=none:=by
          rw[←HX2.out];exact aoZ
         have hKn:K 1=((0,-1),k'):=by rw[Uj.out,Yp,HKK.out];rfl
         have Pg:=bW hKn;clear Yp hKn;go_wp2_with fail;go_roundw
         case rel =>
          go_light;refine⟨1,k',v',by omega,by go_num,fun h=>by omega,by rw[Pg.out],by rw[Pg.out],by rw[Pg.out],hk0',Iu,hkl',G8.out,HNR.out,?_⟩;exact axp
         case measure=>simp[intOf]
       |true =>
        go_upto_region 11 with fail;refine ao0 ?_;intro w5 hW hb5 p0 p1 q0 q1 yq;clear hW;refine axq ?_;intro Q5 agO Ul Es Tc agP Ql;clear hb5 f0 f1 f2 f3 f4 f5 a0 a1 a2 EL acM Ci yY NV agN Dv;go_cut [16] (fun p wx=>p=.pointer (some ⟨w5.heap.size,0,none⟩)∧P.Img wx w5.heap.size 81 (gQ fV s)∧Below w5.heap.size w5 wx)
        case first =>
         as_aux_lemma =>
          exact awF
        case rest =>
         obtain⟨rfl,IU,hb6⟩:=hcut;obtain⟨w6,hw6⟩:∃ x,x=wc:=⟨_,rfl⟩;subst hw6;refine axr ?_;intro zu HU YS YT NY N7 YU YV Dx;replace p0:=(hb6.cell (p:=⟨w4.heap.size,0,none⟩) JC).trans p0;replace p1:=(hb6.cell (p:=⟨w4.heap.size,1,none⟩) JC).trans p1;replace q0:=(hb6.cell (p:=⟨w4.heap.size+1,0,none⟩) JC).trans q0;replace q1:=(hb6.cell (p:=⟨w4.heap.size+1,1,none⟩) JC).trans q1;have z6:w5.heap.size≤w6.heap.size:=hb6.size;have axt:v'.ownBlock≠some w5.heap.size:=fun e=>by have:=(Ql.out.look.row e).2;omega
         obtain⟨f0,f1,f2,f3,f4,f5⟩:=zM N7.out;simp only at f0 f1 f2 f3 f4 f5;refine axu ?_;intro nU4 nU5 nU6 nU8 nU9 aek y4 y5 yT;clear hb6 IU Q5 agO Ul Es Tc agP Ql;refine axv ?_;intro HXS;have Lu:=bW (show P.B.Ok ⟨pl,ph⟩∧P.B.Ok ⟨ql,qh⟩from by have:=amb (c:=NU c) Ky.out OO.out (by rw[Rx.out]);rw[Rx.out]at this;exact this);cases r with
         |false =>
          as_aux_lemma =>
           refine ao1 ?_;intro u1 d1' u2 d2 g1' g2';go_upto_region 16 with fail;refine axw ?_;intro w7 hW U7 BU;clear hW d1' d2 g1' g2';have Ye:=bW U7;clear U7;refine amc ?_;intro AV aaw aax NR Ua aay aaz;refine axx ?_;intro z7 uG;clear BU f0 f1 f2 f3 f4 f5 p0 p1 q0 q1 HU Dx YS YT NY N7 YU YV;generalize Eo:(s.narrowed ⟨c,d,sr,false,o,nn⟩ ⟨pl,ph⟩ ⟨ql,qh⟩)=ns at *;exact awq
         |true =>
          by_cases hds:sr=d
          ·as_aux_lemma =>
            have aeu:=hds.symm;clear hds;subst aeu;have ds:((d:Int) !=d)=false:=dY;go_upto_region 16 with fail;refine axy ?_;intro Ye BU AV aaw aax NR Ua aay aaz z7 uG;clear BU f0 f1 f2 f3 f4 f5 p0 p1 q0 q1 HU Dx YS YT NY N7 YU YV;generalize Eo:(s.narrowed ⟨c,d,d,true,o,nn⟩ ⟨pl,ph⟩ ⟨ql,qh⟩)=ns at *;have HNS:=bW Eo;clear Eo;obtain⟨f0,f1,f2,f3,f4,f5⟩:=zM Ua.out;simp only at f0 f1 f2 f3 f4 f5;have HG7:=bW (HG.out.under ((CY.out.trans AV.out).below HL.out) hgb);have zL:=bW (HC.out.under ((CY.out.trans AV.out).below HL.out) hab);go_wp2_with (first|(with_reducible refine BJ iV 182 (.tmp 16) rfl w5.heap.size 0 iV (iK fV ns) _ (Img.iK Ye.out) Tryz.underlying182 rfl (rsize _) ?_));refine aev ?_;have mQ:=bW (G7 HP.out f ns ((pc+1:Nat):Int) k' uG.out bQ adI NP);have uH:=bW (TV (S:=S) f ns ((pc+1:Nat):Int) k' Iu);have yR:=bW (acB (S:=S) f ns ((pc+1:Nat):Int) k' hkl');have uy:Hid (K 1=iO S f ns ((pc+1:Nat):Int) k'):=ar5;refine(HIH.out ns (pc+1) k' v' w6 uG.out Hf.out bQ hk0' Iu hkl' G8.out HG7.out zL.out AV.out.look).mono ?_;rintro e w8 ⟨v8,rfl,Iw⟩;refine axz ?_;intro Ox VN Ll r0 r1 t0 t1 Hg z8 zF8;clear Iw Ox NR f0 f1 f2 f3 f4 f5;obtain⟨r8,JW⟩:∃ r8,iO S f ns ((pc+1:Nat):Int) k'=r8:=⟨_,rfl⟩;rw[JW]at mQ uH yR Hg uy;rw[JW];clear JW;obtain⟨⟨er,QT⟩,k8⟩:=r8;simp only at mQ uH yR Hg ⊢;by_cases he:er=0
            ·subst he;have QU:QT=-1:=mQ.out.place rfl;have JX:=bW QU;clear QU;go_wp2_with fail;go_roundw
             case rel =>
              go_light;refine⟨1,k8,v8,by omega,by go_num,fun h=>by omega,by rw[uy.out],by rw[uy.out];exact JX.out,by rw[uy.out],Int.le_trans hk0' mQ.out.looks,uH.out agu,yR.out,mQ.out.ok G8.out,VN.out,?_⟩;exact Hg.out.later ((Below.refl _ _).alloc (Nat.le_refl _) _)
             case measure=>simp[intOf]
            ·have tn:=Dl he;have CX:=bW he;clear he;go_wp2_with fail;refine bodyPost_ret (v:=.agg #[aU er,aU QT]) ?_ rfl ?_
             ·exact acJ
             ·rw[HKR.out 0 bQ TY.out agt,uy.out];exact axA
          ·as_aux_lemma =>
            have ds:=Dl (show(sr:Int)≠d by omega);go_upto_region 15 with fail;refine ao1 ?_;intro u1 d1' u2 d2 g1' g2';refine axB ?_;intro us1 l1' us2 l2 m1' m2';refine ao2 ?_;intro m11 m12 m21 m22 n11 n12 n21 n22;go_cut [16] (fun p wx=>p=.pointer (some ⟨w5.heap.size,0,none⟩)∧P.Img wx w5.heap.size 81 (gQ fV (s.narrowed ⟨c,d,sr,true,o,nn⟩ ⟨pl,ph⟩ ⟨ql,qh⟩))∧But w5.heap.size w6 wx)
            case first =>
             as_aux_lemma =>
              exact awu
            case rest =>
             obtain⟨rfl,U7,BU⟩:=hcut;obtain⟨w7,hw7⟩:∃ x,x=wc:=⟨_,rfl⟩;subst hw7;clear d1' d2 g1' g2' l1' l2 m1' m2' m11 m12 m21 m22 n11 n12 n21 n22;have Ye:=bW U7;clear U7;refine amc ?_;intro AV aaw aax NR Ua aay aaz;have z7:w6.heap.size≤w7.heap.size:=BU.size;have uG:Hid (kG (s.narrowed ⟨c,d,sr,true,o,nn⟩ ⟨pl,ph⟩ ⟨ql,qh⟩)):=HS.out.narrowed _ Lu.out.1 Lu.out.2;clear BU f0 f1 f2 f3 f4 f5 p0 p1 q0 q1 HU Dx YS YT NY N7 YU YV;generalize Eo:(s.narrowed ⟨c,d,sr,true,o,nn⟩ ⟨pl,ph⟩ ⟨ql,qh⟩)=ns at *;exact awq
     ·as_aux_lemma =>
       have ci:wr.cell? ⟨Q,1,none⟩=some (aU (c)):=ama.out.cell 1 bQ;have CN:=bW (fun w=>axn (c) xl xh yl yh Ky.out.1 Ky.out.2.1 OO.out.1 OO.out.2.1 Ky.out.2.2 OO.out.2.2 w);obtain⟨Nr,O5⟩:∃ Nr,eX (c) ⟨xl,xh⟩ ⟨yl,yh⟩=Nr:=⟨_,rfl⟩;rw[O5]at CN;have Rx:=bW O5;clear O5;obtain⟨⟨pl,ph⟩,⟨ql,qh⟩,ok⟩:=Nr;simp only at CN;go_wp2_with fail;refine axo ?_;intro w4 hb4 EL acM Ci yY NV agN Dv z4;obtain⟨f0,f1,f2,f3,f4,f5⟩:=zM yY.out;obtain⟨a0,a1,a2⟩:=aat NV.out;simp only at f0 f1 f2 f3 f4 f5 a0 a1 a2;clear hb4 CN ci asB aoW acL aoX aoY ama HLr;cases ok with
       |false =>
        as_aux_lemma =>
         have Yp:Y=none:=by
          rw[←HY2.out];exact aoZ
         have hKn:K 2=((0,-1),k'):=by rw[Yo.out,Yp,HKK.out];rfl
         have Pg:=bW hKn;clear Yp hKn;go_wp2_with fail;go_roundw
         case rel =>
          go_light;refine⟨2,k',v',by omega,by go_num,fun _=>TY.out,by rw[Pg.out],by rw[Pg.out],by rw[Pg.out],hk0',Iu,hkl',G8.out,HNR.out,?_⟩;exact axp
         case measure=>simp[intOf]
       |true =>
        go_upto_region 11 with fail;refine ao0 ?_;intro w5 hW hb5 p0 p1 q0 q1 yq;clear hW;refine axq ?_;intro Q5 agO Ul Es Tc agP Ql;clear hb5 f0 f1 f2 f3 f4 f5 a0 a1 a2 EL acM Ci yY NV agN Dv;go_cut [16] (fun p wx=>p=.pointer (some ⟨w5.heap.size,0,none⟩)∧P.Img wx w5.heap.size 81 (gQ fV s)∧Below w5.heap.size w5 wx)
        case first =>
         as_aux_lemma =>
          exact awF
        case rest =>
         obtain⟨rfl,IU,hb6⟩:=hcut;obtain⟨w6,hw6⟩:∃ x,x=wc:=⟨_,rfl⟩;subst hw6;refine axr ?_;intro zu HU YS YT NY N7 YU YV Dx;replace p0:=(hb6.cell (p:=⟨w4.heap.size,0,none⟩) JC).trans p0;replace p1:=(hb6.cell (p:=⟨w4.heap.size,1,none⟩) JC).trans p1;replace q0:=(hb6.cell (p:=⟨w4.heap.size+1,0,none⟩) JC).trans q0;replace q1:=(hb6.cell (p:=⟨w4.heap.size+1,1,none⟩) JC).trans q1;have z6:w5.heap.size≤w6.heap.size:=hb6.size;have axt:v'.ownBlock≠some w5.heap.size:=fun e=>by have:=(Ql.out.look.row e).2;omega
         obtain⟨f0,f1,f2,f3,f4,f5⟩:=zM N7.out;simp only at f0 f1 f2 f3 f4 f5;refine axu ?_;intro nU4 nU5 nU6 nU8 nU9 aek y4 y5 yT;clear hb6 IU Q5 agO Ul Es Tc agP Ql;refine axC ?_;intro HXS;have Lu:=bW (show P.B.Ok ⟨pl,ph⟩∧P.B.Ok ⟨ql,qh⟩from by have:=amb (c:=c) Ky.out OO.out (by rw[Rx.out]);rw[Rx.out]at this;exact this);cases r with
         |false =>
          as_aux_lemma =>
           refine ao1 ?_;intro u1 d1' u2 d2 g1' g2';go_upto_region 16 with fail;refine axw ?_;intro w7 hW U7 BU;clear hW d1' d2 g1' g2';have Ye:=bW U7;clear U7;refine amc ?_;intro AV aaw aax NR Ua aay aaz;refine axx ?_;intro z7 uG;clear BU f0 f1 f2 f3 f4 f5 p0 p1 q0 q1 HU Dx YS YT NY N7 YU YV;generalize Eo:(s.narrowed ⟨c,d,sr,false,o,nn⟩ ⟨pl,ph⟩ ⟨ql,qh⟩)=ns at *;exact awp
         |true =>
          by_cases hds:sr=d
          ·as_aux_lemma =>
            have aeu:=hds.symm;clear hds;subst aeu;have ds:((d:Int) !=d)=false:=dY;go_upto_region 16 with fail;refine axy ?_;intro Ye BU AV aaw aax NR Ua aay aaz z7 uG;clear BU f0 f1 f2 f3 f4 f5 p0 p1 q0 q1 HU Dx YS YT NY N7 YU YV;generalize Eo:(s.narrowed ⟨c,d,d,true,o,nn⟩ ⟨pl,ph⟩ ⟨ql,qh⟩)=ns at *;have HNS:=bW Eo;clear Eo;obtain⟨f0,f1,f2,f3,f4,f5⟩:=zM Ua.out;simp only at f0 f1 f2 f3 f4 f5;have HG7:=bW (HG.out.under ((CY.out.trans AV.out).below HL.out) hgb);have zL:=bW (HC.out.under ((CY.out.trans AV.out).below HL.out) hab);go_wp2_with (first|(with_reducible refine BJ iV 182 (.tmp 16) rfl w5.heap.size 0 iV (iK fV ns) _ (Img.iK Ye.out) Tryz.underlying182 rfl (rsize _) ?_));refine aew ?_;have mQ:=bW (G7 HP.out f ns ((pc+1+o:Nat):Int) k' uG.out bQ adC NP);have uH:=bW (TV (S:=S) f ns ((pc+1+o:Nat):Int) k' Iu);have yR:=bW (acB (S:=S) f ns ((pc+1+o:Nat):Int) k' hkl');have uy:Hid (K 2=iO S f ns ((pc+1+o:Nat):Int) k'):=ar2;refine(HIH.out ns (pc+1+o) k' v' w6 uG.out Lh.out bQ hk0' Iu hkl' G8.out HG7.out zL.out AV.out.look).mono ?_;rintro e w8 ⟨v8,rfl,Iw⟩;refine axz ?_;intro Ox VN Ll r0 r1 t0 t1 Hg z8 zF8;clear Iw Ox NR f0 f1 f2 f3 f4 f5;obtain⟨r8,JW⟩:∃ r8,iO S f ns ((pc+1+o:Nat):Int) k'=r8:=⟨_,rfl⟩;rw[JW]at mQ uH yR Hg uy;rw[JW];clear JW;obtain⟨⟨er,QT⟩,k8⟩:=r8;simp only at mQ uH yR Hg ⊢;by_cases he:er=0
            ·subst he;have QU:QT=-1:=mQ.out.place rfl;have JX:=bW QU;clear QU;go_wp2_with fail;go_roundw
             case rel =>
              go_light;refine⟨2,k8,v8,by omega,by go_num,fun _=>TY.out,by rw[uy.out],by rw[uy.out];exact JX.out,by rw[uy.out],Int.le_trans hk0' mQ.out.looks,uH.out agu,yR.out,mQ.out.ok G8.out,VN.out,?_⟩;exact Hg.out.later ((Below.refl _ _).alloc (Nat.le_refl _) _)
             case measure=>simp[intOf]
            ·have tn:=Dl he;have CX:=bW he;clear he;go_wp2_with fail;refine bodyPost_ret (v:=.agg #[aU er,aU QT]) ?_ rfl ?_
             ·exact acJ
             ·rw[HKR.out 1 bQ TY.out agt,uy.out];exact axA
          ·as_aux_lemma =>
            have ds:=Dl (show(sr:Int)≠d by omega);go_upto_region 15 with fail;refine ao1 ?_;intro u1 d1' u2 d2 g1' g2';refine axB ?_;intro us1 l1' us2 l2 m1' m2';refine ao2 ?_;intro m11 m12 m21 m22 n11 n12 n21 n22;go_cut [16] (fun p wx=>p=.pointer (some ⟨w5.heap.size,0,none⟩)∧P.Img wx w5.heap.size 81 (gQ fV (s.narrowed ⟨c,d,sr,true,o,nn⟩ ⟨pl,ph⟩ ⟨ql,qh⟩))∧But w5.heap.size w6 wx)
            case first =>
             as_aux_lemma =>
              exact awu
            case rest =>
             obtain⟨rfl,U7,BU⟩:=hcut;obtain⟨w7,hw7⟩:∃ x,x=wc:=⟨_,rfl⟩;subst hw7;clear d1' d2 g1' g2' l1' l2 m1' m2' m11 m12 m21 m22 n11 n12 n21 n22;have Ye:=bW U7;clear U7;refine amc ?_;intro AV aaw aax NR Ua aay aaz;have z7:w6.heap.size≤w7.heap.size:=BU.size;have uG:Hid (kG (s.narrowed ⟨c,d,sr,true,o,nn⟩ ⟨pl,ph⟩ ⟨ql,qh⟩)):=HS.out.narrowed _ Lu.out.1 Lu.out.2;clear BU f0 f1 f2 f3 f4 f5 p0 p1 q0 q1 HU Dx YS YT NY N7 YU YV;generalize Eo:(s.narrowed ⟨c,d,sr,true,o,nn⟩ ⟨pl,ph⟩ ⟨ql,qh⟩)=ns at *;exact awp
    ·obtain rfl:j=2:=bQ;have hj3:¬(2:Int)<2:=bQ;have h21:(K 1).1.1=0:=asA.out rfl;have HE:Hid (J4 (iO S f) pc k (.go X Y)=((0,-1),k')):=by
      exact axD
     clear h21;go_wp2_with fail;refine(Yk 0 _).mono ?_;rintro e w4 ⟨rfl,hb4⟩;have Ci:=bW (acL.out.later hb4 bQ);have Dv:=bW (HLr.out.later hb4);have r0:w4.cell? ⟨w.heap.size+1+1,0,none⟩=some (aU 0):=Ci.out.cell 0 bQ;have r1:w4.cell? ⟨w.heap.size+1+1,1,none⟩=some (aU 0):=Ci.out.cell 1 bQ;have t0:=Ci.out.free 0 bQ;have t1:=Ci.out.free 1 bQ;clear hb4 f0 f1 f2 f3 f4 f5 a0 a1 a2 y0 y1 y2;go_wp2_with fail;refine bodyPost_ret (v:=.agg #[aU 0,aU (-1)]) ?_ rfl ?_
     ·exact acJ
     ·rw[HE.out];refine⟨v',rfl,((CY.out.trans Dv.out).but (c:=w.heap.size+1+1) ?_ (show w.heap.size≤w.heap.size+1+1 by omega) bQ (HNR.out _ bQ bQ))⟩;exact((But.refl (w.heap.size+1+1) _).setCell (.inl rfl) _).setCell (.inl rfl) _
 rw[dw h1]at hR;by_cases h2:r=true∨nn≠0∨(c≠15∧c≠16)
 ·rw[dB h2]at hR;subst hR
  as_aux_lemma =>
   have q1:=mV (show letter x.kind≠0 from fun h=>h0 (.inl ((Gp Aq).1 h)));have q2:=mV (show letter y.kind≠0 from fun h=>h0 (.inr ((Gp Kv).1 h)));have hn:(letter x.kind==110)=false∨((letter x.kind==110)=true∧(letter y.kind==110)=false):=by
    by_cases e:x.kind=1
    ·exact .inr ⟨Kw ((DT Aq).2 e),mV (fun h=>h1 ⟨e,(DT Kv).1 h⟩)⟩
    ·exact .inl (mV (fun h=>e ((DT Aq).1 h)))
   have hm:r=true∨(r=false∧(nn !=0)=true)∨(r=false∧(nn !=0)=false∧(c !=15)=true∧(c !=16)=true):=by
    cases r with
    |true=>exact .inl rfl
    |false =>
     by_cases e:nn=0
     ·refine .inr (.inr ⟨rfl,by simp[e],?_,?_⟩)<;>(rw[bne_iff_ne];simp[e]at h2;omega)
     ·exact .inr (.inl ⟨rfl,by rw[bne_iff_ne];exact e⟩)
   clear h0 h1 h2 Aq Kv WA OM g1 g2 g3 g4 hca;rcases hn with q3|⟨q3,q4⟩
   all_goals
    rcases hm with rfl|⟨rfl,m1⟩|⟨rfl,m1,m2,m3⟩
    all_goals
     go_wp2_with fail;refine bodyPost_ret (v:=.agg #[aU 1,aU pc]) ?_ rfl ⟨v,rfl,(HL2.out.but (c:=w.heap.size+1+1) ?_ bQ bQ (Ug HL.out bQ))⟩
     ·exact acJ
     ·exact axe
 ·rw[dw h2]at hR
  as_aux_lemma =>
   have hr:r=false:=by cases r<;>simp_all
   subst hr;have hn0:nn=0:=bQ;subst hn0;have hy1:y=Wh.num (eH 0):=HY.out.symm;subst hy1;have x1:x.kind≠1:=fun e=>h1 ⟨e,rfl⟩;have q1:=mV (show letter x.kind≠0 from fun h=>h0 (.inl ((Gp Aq).1 h)));have q3:=mV (show letter x.kind≠110 from fun h=>x1 ((DT Aq).1 h));have hc2:c=15∨c=16:=bQ;refine aoS ?_;intro ol oh;obtain⟨o,rfl⟩:=Int.eq_ofNat_of_zero_le ol;refine aoT ?_;intro s1 s2 Hf Lh;replace y0:w2.cell? ⟨w.heap.size+1,0,none⟩=some (.int .u8 110):=y0;clear h0 h1 h2 x1 ol oh;rcases hc2 with rfl|rfl
   ·refine axE ?_;intro HR2;clear hR;go_upto_region 26 with fail;have HG0:=bW axd.out;have YW:=bW axc.out;by_cases k5:x.kind=5
    ·have hR2:=HR2.out;rw[dB k5]at hR2;subst hR2;have t5:=Kw ((ao3 Aq).2 k5);clear k5
     as_aux_lemma =>
      go_wp2_with fail;refine ao4 ?_;intro CO q1';repeat (quiet_step (exact CO.out _ _ _))
      refine wpQuiet_nil ?_;intro wq hwq;have hbq:Below w2.heap.size w2 wq:=by
       exact Q8
      clear hwq q1' CO;refine axF ?_;intro IQ u0 d0 u1 d1' u2 d2;refine agR ?_;intro g0 g1' g2' qN qA;have zq:w2.heap.size≤wq.heap.size:=hbq.size;clear IQ hbq;go_wp2_with fail;refine axG ?_;intro w3 hW I5 B5;clear hW d0 d1' d2 g0 g1' g2';refine axH ?_;intro asD CY EK acK HI3 z3 f0 f1 f2 f3 f4 f5 HG3 Hq;clear I5 B5 qA qN r0 r1 t0 t1 a0 a1 a2 y0 y1 y2;go_wp2_with (first|(with_reducible refine BJ iV 182 (.tmp 5) rfl w.heap.size 0 iV (iK fV (s.gu d (.num (eH 0)))) _ (Img.iK HI3.out) Tryz.underlying182 rfl (rsize _) ?_));refine aew ?_;refine(HIH.out (s.gu d (.num (eH 0))) (pc+1+o) k v w3 (HS.out.gu _ (iL.num (Dt N8))) Lh.out bQ hk0 hk1 hkl Ho.out HG3.out Hq.out CY.out.look).mono ?_;rintro e w4 ⟨v4,rfl,hL4⟩;refine axI ?_;intro aex ao5 YX HI4 yY Ci Dv z4;clear hL4 aex f0 f1 f2 f3 f4 f5;have mQ:=bW (G7 HP.out f (s.gu d (.num (eH 0))) ((pc+1+o:Nat):Int) k (HS.out.gu _ (iL.num (Dt N8))) bQ adC NP);have uH:=bW (TV (S:=S) f (s.gu d (.num (eH 0))) ((pc+1+o:Nat):Int) k hk1);have yR:=bW (acB (S:=S) f (s.gu d (.num (eH 0))) ((pc+1+o:Nat):Int) k hkl);have YZ:=bW (asE (f:=iO S f) (pc:=pc) (s:=(s.gu d (.num (eH 0)))) (n:=((pc+1+o:Nat):Int)) (w:=k) (t:=(s.gu d ⟨4,eH 0⟩)) (m:=((pc+1:Nat):Int)))
      have HWb:=bW (ao6 (f:=iO S f) (pc:=pc) (s:=(s.gu d (.num (eH 0)))) (n:=((pc+1+o:Nat):Int)) (w:=k) (y:=some ((s.gu d ⟨4,eH 0⟩),((pc+1:Nat):Int))));obtain⟨r4,hr4⟩:∃ r4,iO S f (s.gu d (.num (eH 0))) ((pc+1+o:Nat):Int) k=r4:=⟨_,rfl⟩;rw[hr4]at mQ uH yR YZ HWb Dv;rw[hr4];clear hr4;obtain⟨⟨er,QT⟩,k4⟩:=r4;simp only at mQ uH yR YZ HWb Dv ⊢;by_cases he:er=0
      ·subst he;have HW2:=bW (YZ.out rfl);clear YZ HWb;go_upto_region 31 with fail;refine axJ ?_;intro w5 hb5 EM Es Ul Ql z5;obtain⟨f0,f1,f2,f3,f4,f5⟩:=zM Es.out;simp only at f0 f1 f2 f3 f4 f5;clear hb5 HI4 yY Ci Dv HI3 EK acK CY;refine ao4 ?_;intro CO q1';repeat (quiet_step (exact CO.out _ _ _))
       refine wpQuiet_nil ?_;intro wz hwq;have hbq:Below w5.heap.size w5 wz:=by
        exact Q8
       clear hwq q1' CO;refine axK ?_;intro IQ u0 d0 u1 d1' u2 d2;refine agR ?_;intro g0 g1' g2' qN qA;have zq:w5.heap.size≤wz.heap.size:=hbq.size;clear IQ hbq;go_wp2_with fail;refine axL ?_;intro w6 hW I5 B5;clear hW d0 d1' d2 g0 g1' g2';refine axM ?_;intro amd Dx N7 NY uD z6 agS zF6;clear I5 B5 qA qN EM Es Ul Ql f0 f1 f2 f3 f4 f5 amd;go_wp2_with (first|(with_reducible refine BJ iV 182 (.tmp 5) rfl w.heap.size 0 iV (iK fV (s.gu d ⟨4,eH 0⟩)) _ (Img.iK uD.out) Tryz.underlying182 rfl (rsize _) ?_));refine aev ?_;have HG6:=bW (HG0.out.under (Dx.out.below HL.out) hgb);have Ba:=bW (YW.out.under (Dx.out.below HL.out) hab);refine(HIH.out (s.gu d ⟨4,eH 0⟩) (pc+1) k4 v4 w6 (HS.out.gu _ ⟨by simp,Dt N8⟩) Hf.out bQ (Int.le_trans hk0 mQ.out.looks) (uH.out agu) yR.out (mQ.out.ok Ho.out) HG6.out Ba.out Dx.out.look).mono ?_;rintro e w9 ⟨v9,rfl,Cj⟩;have WI:v4.ownBlock≠some (w.heap.size+1+1):=YX.out;have LC:v9.ownBlock≠some (w.heap.size+1+1):=row_ne Cj.row (fun g hg=>(Dx.out.look.row hg).2) bQ WI;refine ao7 ?_;intro C9 r0 r1 t0 t1 Y0;have JE:=bW (Dx.out.trans Cj);have NR9:=bW LC;clear Cj LC C9 WI;obtain⟨⟨⟨Y1,Y2⟩,k9⟩,Ht⟩:∃ r9,iO S f (s.gu d ⟨4,eH 0⟩) ((pc+1:Nat):Int) k4=r9:=⟨_,rfl⟩;exact axN
      ·exact axO
    ·have hR2:=HR2.out;rw[dw k5]at hR2;subst hR2;have t5:=mV (fun h=>k5 ((ao3 Aq).1 h));clear k5
     as_aux_lemma =>
      have YX:=bW (Ug HL.out (show w.heap.size≤w.heap.size+1+1 by omega));have agS:=bW Yn.out;clear r0 r1 t0 t1;go_wp2_with (first|(with_reducible refine BJ iV 182 (.tmp 5) rfl w.heap.size 0 iV (iK fV s) _ (Img.iK acI.out) Tryz.underlying182 rfl (rsize _) ?_));refine aev ?_;have HG2:=bW (HG0.out.under (HL2.out.below HL.out) hgb);have HC2:=bW (YW.out.under (HL2.out.below HL.out) hab);refine(HIH.out s (pc+1) k v w2 HS.out Hf.out bQ hk0 hk1 hkl Ho.out HG2.out HC2.out HL2.out.look).mono ?_;rintro e w9 ⟨v9,rfl,Cj⟩;have WI:v.ownBlock≠some (w.heap.size+1+1):=YX.out;have LC:v9.ownBlock≠some (w.heap.size+1+1):=row_ne Cj.row (fun g hg=>(HL2.out.look.row hg).2) bQ WI;refine ao7 ?_;intro C9 r0 r1 t0 t1 Y0;have JE:=bW (HL2.out.trans Cj);have NR9:=bW LC;clear Cj LC C9 WI;obtain⟨⟨⟨Y1,Y2⟩,k9⟩,Ht⟩:∃ r9,iO S f s ((pc+1:Nat):Int) k=r9:=⟨_,rfl⟩;rw[Ht]at JE;have Yg:=bW Ht;rw[Ht];simp only at JE ⊢;clear Ht;go_wp2_with fail;refine bodyPost_ret (v:=.agg #[aU Y1,aU Y2]) ?_ rfl ?_
      ·exact acJ
      ·rw[agT (fun h0=>(G7 HP.out f s _ k HS.out bQ adI NP).place h0),Yg.out];exact asF
   ·refine axP ?_;intro HR2;clear hR;go_upto_region 26 with fail;have HG0:=bW axd.out;have YW:=bW axc.out;by_cases k5:x.kind=5
    ·have hR2:=HR2.out;rw[dB k5]at hR2;subst hR2;have t5:=Kw ((ao3 Aq).2 k5);clear k5
     as_aux_lemma =>
      go_wp2_with fail;refine ao4 ?_;intro CO q1';repeat (quiet_step (exact CO.out _ _ _))
      refine wpQuiet_nil ?_;intro wq hwq;have hbq:Below w2.heap.size w2 wq:=by
       exact Q8
      clear hwq q1' CO;refine axF ?_;intro IQ u0 d0 u1 d1' u2 d2;refine agR ?_;intro g0 g1' g2' qN qA;have zq:w2.heap.size≤wq.heap.size:=hbq.size;clear IQ hbq;go_wp2_with fail;refine axG ?_;intro w3 hW I5 B5;clear hW d0 d1' d2 g0 g1' g2';refine axH ?_;intro asD CY EK acK HI3 z3 f0 f1 f2 f3 f4 f5 HG3 Hq;clear I5 B5 qA qN r0 r1 t0 t1 a0 a1 a2 y0 y1 y2;go_wp2_with (first|(with_reducible refine BJ iV 182 (.tmp 5) rfl w.heap.size 0 iV (iK fV (s.gu d (.num (eH 0)))) _ (Img.iK HI3.out) Tryz.underlying182 rfl (rsize _) ?_));refine aev ?_;refine(HIH.out (s.gu d (.num (eH 0))) (pc+1) k v w3 (HS.out.gu _ (iL.num (Dt N8))) Hf.out bQ hk0 hk1 hkl Ho.out HG3.out Hq.out CY.out.look).mono ?_;rintro e w4 ⟨v4,rfl,hL4⟩;refine axI ?_;intro aex ao5 YX HI4 yY Ci Dv z4;clear hL4 aex f0 f1 f2 f3 f4 f5;have mQ:=bW (G7 HP.out f (s.gu d (.num (eH 0))) ((pc+1:Nat):Int) k (HS.out.gu _ (iL.num (Dt N8))) bQ adI NP);have uH:=bW (TV (S:=S) f (s.gu d (.num (eH 0))) ((pc+1:Nat):Int) k hk1);have yR:=bW (acB (S:=S) f (s.gu d (.num (eH 0))) ((pc+1:Nat):Int) k hkl);have YZ:=bW (asE (f:=iO S f) (pc:=pc) (s:=(s.gu d (.num (eH 0)))) (n:=((pc+1:Nat):Int)) (w:=k) (t:=(s.gu d ⟨4,eH 0⟩)) (m:=((pc+1+o:Nat):Int)))
      have HWb:=bW (ao6 (f:=iO S f) (pc:=pc) (s:=(s.gu d (.num (eH 0)))) (n:=((pc+1:Nat):Int)) (w:=k) (y:=some ((s.gu d ⟨4,eH 0⟩),((pc+1+o:Nat):Int))));obtain⟨r4,hr4⟩:∃ r4,iO S f (s.gu d (.num (eH 0))) ((pc+1:Nat):Int) k=r4:=⟨_,rfl⟩;rw[hr4]at mQ uH yR YZ HWb Dv;rw[hr4];clear hr4;obtain⟨⟨er,QT⟩,k4⟩:=r4;simp only at mQ uH yR YZ HWb Dv ⊢;by_cases he:er=0
      ·subst he;have HW2:=bW (YZ.out rfl);clear YZ HWb;go_upto_region 31 with fail;refine axJ ?_;intro w5 hb5 EM Es Ul Ql z5;obtain⟨f0,f1,f2,f3,f4,f5⟩:=zM Es.out;simp only at f0 f1 f2 f3 f4 f5;clear hb5 HI4 yY Ci Dv HI3 EK acK CY;refine ao4 ?_;intro CO q1';repeat (quiet_step (exact CO.out _ _ _))
       refine wpQuiet_nil ?_;intro wz hwq;have hbq:Below w5.heap.size w5 wz:=by
        exact Q8
       clear hwq q1' CO;refine axK ?_;intro IQ u0 d0 u1 d1' u2 d2;refine agR ?_;intro g0 g1' g2' qN qA;have zq:w5.heap.size≤wz.heap.size:=hbq.size;clear IQ hbq;go_wp2_with fail;refine axL ?_;intro w6 hW I5 B5;clear hW d0 d1' d2 g0 g1' g2';refine axM ?_;intro amd Dx N7 NY uD z6 agS zF6;clear I5 B5 qA qN EM Es Ul Ql f0 f1 f2 f3 f4 f5 amd;go_wp2_with (first|(with_reducible refine BJ iV 182 (.tmp 5) rfl w.heap.size 0 iV (iK fV (s.gu d ⟨4,eH 0⟩)) _ (Img.iK uD.out) Tryz.underlying182 rfl (rsize _) ?_));refine aew ?_;have HG6:=bW (HG0.out.under (Dx.out.below HL.out) hgb);have Ba:=bW (YW.out.under (Dx.out.below HL.out) hab);refine(HIH.out (s.gu d ⟨4,eH 0⟩) (pc+1+o) k4 v4 w6 (HS.out.gu _ ⟨by simp,Dt N8⟩) Lh.out bQ (Int.le_trans hk0 mQ.out.looks) (uH.out agu) yR.out (mQ.out.ok Ho.out) HG6.out Ba.out Dx.out.look).mono ?_;rintro e w9 ⟨v9,rfl,Cj⟩;have WI:v4.ownBlock≠some (w.heap.size+1+1):=YX.out;have LC:v9.ownBlock≠some (w.heap.size+1+1):=row_ne Cj.row (fun g hg=>(Dx.out.look.row hg).2) bQ WI;refine ao7 ?_;intro C9 r0 r1 t0 t1 Y0;have JE:=bW (Dx.out.trans Cj);have NR9:=bW LC;clear Cj LC C9 WI;obtain⟨⟨⟨Y1,Y2⟩,k9⟩,Ht⟩:∃ r9,iO S f (s.gu d ⟨4,eH 0⟩) ((pc+1+o:Nat):Int) k4=r9:=⟨_,rfl⟩;exact axN
      ·exact axO
    ·have hR2:=HR2.out;rw[dw k5]at hR2;subst hR2;have t5:=mV (fun h=>k5 ((ao3 Aq).1 h));clear k5
     as_aux_lemma =>
      have YX:=bW (Ug HL.out (show w.heap.size≤w.heap.size+1+1 by omega));have agS:=bW Yn.out;clear r0 r1 t0 t1;go_wp2_with (first|(with_reducible refine BJ iV 182 (.tmp 5) rfl w.heap.size 0 iV (iK fV s) _ (Img.iK acI.out) Tryz.underlying182 rfl (rsize _) ?_));refine aew ?_;have HG2:=bW (HG0.out.under (HL2.out.below HL.out) hgb);have HC2:=bW (YW.out.under (HL2.out.below HL.out) hab);refine(HIH.out s (pc+1+o) k v w2 HS.out Lh.out bQ hk0 hk1 hkl Ho.out HG2.out HC2.out HL2.out.look).mono ?_;rintro e w9 ⟨v9,rfl,Cj⟩;have WI:v.ownBlock≠some (w.heap.size+1+1):=YX.out;have LC:v9.ownBlock≠some (w.heap.size+1+1):=row_ne Cj.row (fun g hg=>(HL2.out.look.row hg).2) bQ WI;refine ao7 ?_;intro C9 r0 r1 t0 t1 Y0;have JE:=bW (HL2.out.trans Cj);have NR9:=bW LC;clear Cj LC C9 WI;obtain⟨⟨⟨Y1,Y2⟩,k9⟩,Ht⟩:∃ r9,iO S f s ((pc+1+o:Nat):Int) k=r9:=⟨_,rfl⟩;rw[Ht]at JE;have Yg:=bW Ht;rw[Ht];simp only at JE ⊢;clear Ht;go_wp2_with fail;refine bodyPost_ret (v:=.agg #[aU Y1,aU Y2]) ?_ rfl ?_
      ·exact acJ
      ·rw[agT (fun h0=>(G7 HP.out f s _ k HS.out bQ adC NP).place h0),Yg.out];exact asF
end Go.Proofs.YtglilddlhibogaaGreatDoor.W
