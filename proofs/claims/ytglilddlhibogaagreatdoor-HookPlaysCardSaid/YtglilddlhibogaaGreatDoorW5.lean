/- A part of the proof; each theorem states its conditions. -/
import Derived.Test.YtglilddlhibogaaGreatDoorW2
import Derived.Test.YtglilddlhibogaaGreatDoorW4
set_option linter.unusedSimpArgs false
set_option linter.unusedVariables false
set_option maxRecDepth 100000
set_option maxHeartbeats 100000000
namespace Go.Proofs.YtglilddlhibogaaGreatDoor.W
open Go.RowKit Go.Proofs.YtglilddlhibogaaGreatDoor.P
theorem aHK{sl:Nat→Wh}{n k:Nat}{acc:P.B}(h:(sl k).kind=0):wB sl (n+1) k acc=(Wh.nil,8):=by
 unfold wB;rw[dB h]
theorem aHL{sl:Nat→Wh}{n k:Nat}{acc:P.B}(h:(sl k).kind≠0)(h1:(sl k).kind≠1):wB sl (n+1) k acc=(Wh.nil,1):=by
 unfold wB;rw[dw h,dB h1]
theorem ay7{sl:Nat→Wh}{n k:Nat}{acc:P.B}(h1:(sl k).kind=1):wB sl (n+1) k acc=wB sl n (k+1) (wU acc (sl k).b):=by
 conv=>lhs;unfold wB
 rw[dw bQ,dw AO]
def Dc(sl:Nat→Wh)(one:Bool):Nat→Nat→Int
 |0,_=>0
 |n+1,k=>if(sl k).kind=0 then 8 else if(sl k).kind≠1∧one=false then 1 else Dc sl one n (k+1)
def Yv(sl:Nat→Wh):Nat→Nat→P.B→P.B
 |0,_,acc=>acc
 |n+1,k,acc=>Yv sl n (k+1) (wU acc (sl k).b)
def Us(sl:Nat→Wh)(m q:Nat):Wh × Int:=if Dc sl (m==1) m q≠0 then(Wh.nil,Dc sl (m==1) m q)else(⟨(sl q).kind,Yv sl (m-1) (q+1) (sl q).b⟩,0)
theorem ay8{sl:Nat→Wh}:∀ (n k:Nat) (acc:P.B),Dc sl false n k≠0→wB sl n k acc=(Wh.nil,Dc sl false n k)
 |0,k,acc,h=>absurd rfl h
 |n+1,k,acc,h=>by
  by_cases h0:(sl k).kind=0
  ·rw[aHK h0];unfold Dc;rw[dB h0]
  by_cases h1:(sl k).kind=1
  ·rw[ay7 h1];unfold Dc at h ⊢;rw[dw h0,dw AO]at h ⊢;exact ay8 n (k+1) _ h
  ·rw[aHL h0 h1];unfold Dc;rw[dw h0,dB ⟨h1,rfl⟩]
theorem ay9{sl:Nat→Wh}:∀ (n k:Nat) (acc:P.B),Dc sl false n k=0→wB sl n k acc=(Wh.num (Yv sl n k acc),0)
 |0,k,acc,_=>rfl
 |n+1,k,acc,h=>by
  unfold Dc at h;by_cases h0:(sl k).kind=0
  ·rw[dB h0]at h;exact absurd h dS
  by_cases h1:(sl k).kind=1
  ·rw[dw h0,dw AO]at h;rw[ay7 h1,ay9 n (k+1) _ h];rfl
  ·rw[dw h0,dB ⟨h1,rfl⟩]at h;exact absurd h dS
theorem aHM{sl:Nat→Wh}{m q:Nat}(hm:2≤m):Us sl m q=wB sl m q (sl q).b:=by
 unfold Us;rw[show(m==1)=false by simp;omega];by_cases h:Dc sl false m q=0
 ·rw[dw (by simp[h]),ay9 m q _ h];obtain⟨n,rfl⟩:∃ n,m=n+1:=⟨m-1,by omega⟩;have hk:(sl q).kind=1:=by
   unfold Dc at h;by_cases h0:(sl q).kind=0
   ·rw[dB h0]at h;exact absurd h dS
   by_cases h1:(sl q).kind=1
   ·exact h1
   ·rw[dw h0,dB ⟨h1,rfl⟩]at h;exact absurd h dS
  rw[hk,Nat.add_sub_cancel];conv=>rhs;unfold Yv
  rw[apn];rfl
 ·rw[dB h,ay8 m q _ h]
theorem aHN{sl:Nat→Wh}{q:Nat}:Us sl 1 q=if(sl q).kind=0 then(.nil,8)else(sl q,0):=by
 unfold Us Dc Dc Yv;simp;by_cases h:(sl q).kind=0
 ·simp[h]
 ·simp[h]
def Zb(sl:Nat→Wh)(q:Nat):Nat→List Value
 |0=>[]
 |n+1=>Zb sl q n++[fV (sl (q+n)) 0,fV (sl (q+n)) 1,fV (sl (q+n)) 2]
theorem as8(sl:Nat→Wh)(q n:Nat):(Zb sl q n).length=n*3:=by
 induction n with
 |zero=>rfl
 |succ n ih=>unfold Zb;rw[List.length_append,ih];simp;omega
theorem aHO(sl:Nat→Wh)(q:Nat){n j k:Nat}(hj:j<n)(hk:k<3):(Zb sl q n)[j*3+k]?=some (fV (sl (q+j)) k):=by
 induction n with
 |zero=>omega
 |succ n ih =>
  unfold Zb;by_cases h:j<n
  ·rw[List.getElem?_append_left (by rw[as8];omega)];exact ih h
  ·obtain rfl:j=n:=bQ;rw[List.getElem?_append_right (by rw[as8];omega),as8,show j*3+k-j*3=k by omega];have:k=0∨k=1∨k=2:=bQ;rcases this with rfl|rfl|rfl<;>rfl
theorem aHP{sl:Nat→Wh}{one:Bool}{n k:Nat}(h0:(sl k).kind≠0)(h1:(sl k).kind=1∨one=true):Dc sl one (n+1) k=Dc sl one n (k+1):=by
 conv=>lhs;unfold Dc
 rw[dw h0,dw];rintro ⟨a,b⟩;rcases h1 with h1|h1
 ·exact a h1
 ·rw[h1]at b;exact absurd b dS
theorem aHQ:((Tryz.prog).info? 180).map (fun i=>(i.zero,i.size,i.bytes))=some (some (.agg #[.int .u8 0,aU 0,aU 0]),3,24):=dF
theorem ahj{w:World}{base:Nat}{e:TypeId}{sl:Nat→Wh}{q m cap g:Nat}(h:w.ownsRow base e 3 (.slice (some ⟨g,0,none⟩) m cap) m (Zb sl q m)){j k:Nat}(hj:j<m)(hk:k<3):w.cell? ⟨g,j*3+k,none⟩=some (fV (sl (q+j)) k):=by
 have:=h.cells (g:=g) rfl (j*3+k) _ (aHO sl q hj hk);have hadd:(⟨g,0,none⟩:Addr).add (j*3+k)=⟨g,j*3+k,none⟩:=by unfold Addr.add;split<;>simp_all
 rwa [hadd]at this
theorem aza{sl:Nat→Wh}{m q:Nat}{e:Int}(h:Dc sl (m==1) m q=e)(he:e≠0):Us sl m q=(Wh.nil,e):=by
 unfold Us;rw[h,dB he]
theorem aHR{sl:Nat→Wh}{m q:Nat}(h:Dc sl (m==1) m q=0):Us sl m q=(⟨(sl q).kind,Yv sl (m-1) (q+1) (sl q).b⟩,0):=by
 unfold Us;rw[h,dw dY]
theorem azb{w:World}{b:Nat}{x:Wh}{ty:TypeId}(h:w.heap[b]?=some (.cells #[.int .u8 (letter x.kind),aU x.b.lo,aU x.b.hi] ty (0,0))):P.Img w b 3 (fV x):=by
 exact asy
theorem aHS(s:VS)(hs:kG s)(w:World)(hg:nH w)(l h:Int)(ha:P.B.Ok ⟨l,h⟩)(o:Int)(ho:In64 o)(q m:Nat)(L H:Int)(hL:L+16=q)(hH:H=L+m-1)(hm:1≤m)(hq:q+m≤16)(hke:Ur ⟨3,⟨l,h⟩⟩ o=(⟨L,H⟩,0)) :
  Calls Tryz.prog 105 #[.agg (iK fV s).toArray,.agg #[.int .u8 102,aU l,aU h],aU o] w fun e w' =>
   e=.returned (.tuple #[.agg #[.int .u8 (letter (Us s.slots m q).1.kind),aU (Us s.slots m q).1.b.lo,aU (Us s.slots m q).1.b.hi],aU (Us s.slots m q).2])∧Below w.heap.size w w':=by
 have gz:=hg.lt;refine fU ?_;intro HW0;obtain⟨R,hR⟩:∃ R,Us s.slots m q=R:=⟨_,rfl⟩;rw[hR];have HR:=bW hR;have C:=bW (fun w (hg:nH w)=>apk ⟨3,⟨l,h⟩⟩ o ⟨by simp,ha⟩ ho w hg);have HK:=bW hke;have HG:=bW hg;have HH:=bW hH;have HL:=bW hL;have HM:=bW hm;have l0:-16≤L:=bQ;have l1:L<0:=bQ;have l2:L≤H:=bQ;have l3:H<0:=bQ;clear hke ha ho hH hL hR hg;go_enter Tryz.func105,Tryz.ntmps105;go_wp2_with fail;refine amu ?_;rw[HK.out];rintro e w1 ⟨rfl,hb⟩;have IM1:=bW (((Img.al7 (w:=w) (c:=fV) (s:=s) (t:=182)).alloc _).alloc _ |>.later hb eU);refine apo ?_;intro hc1 hf1 hz1 HW1;clear hb;refine aoK ?_;intro z10 z11;have z12:w.heap.size+1+1<w1.heap.size:=bQ
 (have zX:w1.cell? ⟨w.heap.size+1,0,none⟩=some (.int .u8 102):=fH;have zZ:w1.frozen? ⟨w.heap.size+1,0,none⟩=false:=fO;have Af:w1.cell? ⟨w.heap.size+1,1,none⟩=some (aU l):=fH;have Ah:w1.frozen? ⟨w.heap.size+1,1,none⟩=false:=fO;have Ai:w1.cell? ⟨w.heap.size+1,2,none⟩=some (aU h):=fH;have Aj:w1.frozen? ⟨w.heap.size+1,2,none⟩=false:=fO)
 refine ape ?_;intro Tf Ti Tj Tm Tn Tq;clear hc1 hf1;go_wp2_with fail;obtain⟨i0,hi0,hz0,hz1,hz2⟩:=info_parts aHQ;have aHT:=bW hi0;have HZ0:=bW hz0;have HZ1:=bW hz1;have HZ2:=bW hz2;clear hi0 hz0 hz1 hz2;go_loopw [10,11] (fun lv k wr=>∃ (i:Nat) (kk:Int),i≤m∧k=aU kk∧kk=L+i∧Dc s.slots (m==1) m q=Dc s.slots (m==1) (m-i) (q+i)∧wr.ownsRow (w1.heap.size+1) 180 3 lv i (Zb s.slots q i) ∧
   (∃ og jM,lv=.slice og i jM)∧wr.cell? ⟨w1.heap.size,0,none⟩=some (aU L)∧wr.cell? ⟨w1.heap.size,1,none⟩=some (aU H)∧w1.heap.size<wr.heap.size∧Below w1.heap.size w1 wr) (fun _ k _=>(H+1-intOf k).toNat)
 case atStart=>exact⟨0,L,by omega,rfl,by simp,by simp,World.ownsRow_nil _ _ _ _,⟨none,0,rfl⟩,by simp[go_sem],by simp[go_sem],by simp,(Below.refl _ _).alloc (Nat.le_refl _) _⟩
 case round =>
  obtain⟨i,kk,him,rfl,hkk,hv,hown,⟨og,jM,rfl⟩,hL0,hL1,hzr,hB⟩:=hrel;have HV:=bW hv;have HOWN:=bW hown;have HB:=bW hB;have HKK:=bW hkk;have G0:=(hB.cell (p:=⟨w.heap.size+1+1,0,none⟩) z12).trans Tf;have G1:=(hB.cell (p:=⟨w.heap.size+1+1,1,none⟩) z12).trans Tj;have G2:=(hB.cell (p:=⟨w.heap.size+1+1,2,none⟩) z12).trans Tn;have E0:=(hB.frozen (p:=⟨w.heap.size+1+1,0,none⟩) z12).trans Ti;have E1:=(hB.frozen (p:=⟨w.heap.size+1+1,1,none⟩) z12).trans Tm;have E2:=(hB.frozen (p:=⟨w.heap.size+1+1,2,none⟩) z12).trans Tq;have LD:=bW (HW1.out.trans (hB.mono bQ));have zr1:w.heap.size+1+1<wr.heap.size:=bQ;have zr2:w.heap.size<wr.heap.size:=bQ;have zr3:w1.heap.size<wr.heap.size:=bQ;have zn1:¬wr.heap.size=w.heap.size+1+1:=bQ;have zn2:¬wr.heap.size=w1.heap.size:=bQ;have zn3:¬w1.heap.size=wr.heap.size:=bQ;have zn4:¬w.heap.size+1+1=wr.heap.size:=bQ;by_cases hlt2:i<m
  ·obtain⟨n,hn⟩:∃ n,m-i=n+1:=⟨m-i-1,by omega⟩;obtain⟨j,hj⟩:∃ j,11+(q+i)=j:=⟨_,rfl⟩;have hk:q+i<16:=bQ;have IM:=IM1.out.later hB bQ;have d0:wr.cell? ⟨w.heap.size,j*3,none⟩=some (.int .u8 (letter (s.slots (q+i)).kind)):=(IM.cell (j*3) bQ).trans (congrArg some ((aaJ hk (bQ:0<3) bQ).trans (amL _)));have d1:wr.cell? ⟨w.heap.size,j*3+1,none⟩=some (aU (s.slots (q+i)).b.lo):=(IM.cell (j*3+1) bQ).trans (congrArg some ((aaJ hk (bQ:1<3) bQ).trans (ajg _)));have d2:wr.cell? ⟨w.heap.size,j*3+2,none⟩=some (aU (s.slots (q+i)).b.hi):=(IM.cell (j*3+2) bQ).trans (congrArg some ((aaJ hk (bQ:2<3) bQ).trans (ajh _)));have e16:27+kk=(j:Int):=by have:=HL.out;omega
   have k1:kk≤H:=apq;have k2:0≤27+kk:=bQ;have k3:(j:Int)<27:=bQ;have k4:(0:Int)≤(j:Int):=bQ;have s16:IntKind.i64.wrap (27+kk)=(j:Int):=by rw[e16];exact IntWalk.i64_in _ bQ
   have hst:Hid (m-(i+1)=n∧q+(i+1)=q+i+1∧i+1≤m):=⟨by omega,by omega,by omega⟩;rw[hn]at hv;have HV:=bW hv;have HX:=bW (show Zb s.slots q i++[.int .u8 (letter (s.slots (q+i)).kind),aU (s.slots (q+i)).b.lo,aU (s.slots (q+i)).b.hi]=Zb s.slots q (i+1)from rfl);have kx:wI (s.slots (q+i)).kind:=(hs.2 (q+i)).1;clear hv hB hkk hj hn IM hown;by_cases h0:(s.slots (q+i)).kind=0
   ·have t0:=Kw ((Gp kx).2 h0);have hres:=HV.out;rw[show Dc s.slots (m==1) (n+1) (q+i)=8 from by unfold Dc;rw[dB h0]]at hres;have hR:=HR.out;rw[aza hres dS]at hR;subst hR;clear hres h0 kx;go_wp2_with fail;refine bodyPost_ret (v:=.tuple #[.agg #[.int .u8 0,aU 0,aU 0],aU 8]) ?_ rfl ⟨rfl,?_⟩
    ·exact apr
    ·exact amM
   ·have t0:=mV (fun h=>h0 ((Gp kx).1 h));by_cases h1:(s.slots (q+i)).kind≠1∧(m==1)=false
    ·have t1:=Dl (fun h=>h1.1 ((DT kx).1 h));have t2:=Dl (show L≠H by have:=HH.out;have h2:=h1.2;simp at h2;omega);have hres:=HV.out;rw[show Dc s.slots (m==1) (n+1) (q+i)=1 from by unfold Dc;rw[dw h0,dB h1]]at hres;have hR:=HR.out;rw[aza hres dS]at hR;subst hR;clear hres h0 h1 kx;go_wp2_with fail;refine bodyPost_ret (v:=.tuple #[.agg #[.int .u8 0,aU 0,aU 0],aU 1]) ?_ rfl ⟨rfl,?_⟩
     ·exact apr
     ·exact amM
    ·have hn1:(letter (s.slots (q+i)).kind !=110)=false∨((letter (s.slots (q+i)).kind !=110)=true∧(L !=H)=false):=by
      by_cases e:(s.slots (q+i)).kind=1
      ·left;rw[(DT kx).2 e];rfl
      ·right;refine⟨Dl (fun h=>e ((DT kx).1 h)),?_⟩;have h2:(m==1)=true:=by
        cases hm1:(m==1)with
        |true=>rfl
        |false=>exact absurd ⟨e,hm1⟩ h1
       have h3:L=H:=by have:=HH.out;simp at h2;omega
       rw[h3];simp
     have hres:=HV.out;rw[aHP h0 (by
      by_cases e:(s.slots (q+i)).kind=1
      ·exact .inl e
      ·right
       cases hm1:(m==1)with
       |true=>rfl
       |false=>exact absurd ⟨e,hm1⟩ h1)]at hres
     have Qs:=bW hres;generalize s.slots (q+i)=x at *;obtain⟨xk,⟨xl,xh⟩⟩:=x;simp only at d0 d1 d2 t0 hn1;generalize letter xk=xt at *;clear hres h0 h1 kx;rcases hn1 with t1|⟨t1,t2⟩
     all_goals
      go_upto_region 15 with fail;generalize hW:World.alloc wr _=wx;have b0:wx.heap[wr.heap.size]?=some (.cells #[.int .u8 xt,aU xl,aU xh] 180 (0,0)):=hW▸heap_alloc_new wr _;have x0:wx.cell? ⟨wr.heap.size,0,none⟩=some (.int .u8 xt):=qY;have x1:wx.cell? ⟨wr.heap.size,1,none⟩=some (aU xl):=qY;have x2:wx.cell? ⟨wr.heap.size,2,none⟩=some (aU xh):=qY;have hbx:Below wr.heap.size wr wx:=hW▸(Below.refl _ _).alloc (Nat.le_refl _) _;have Ky:=bW (show wx.ownsRow _ _ _ _ _ _ from hW▸HOWN.out.alloc _);have sS:=bW (HB.out.trans (hbx.mono bQ));have bl0:=(hbx.cell (p:=⟨w1.heap.size,0,none⟩) zr3).trans hL0;have bl1:=(hbx.cell (p:=⟨w1.heap.size,1,none⟩) zr3).trans hL1;have zx:wr.heap.size<wx.heap.size:=OC;clear hW hbx b0 hL0 hL1 d0 d1 d2 G0 G1 G2 E0 E1 E2;have HT1:=bW t1;go_wp2_with (first|(at_builtin;refine wpList_append_lies _ iC (.tmp 58) (.tmp 60) 283 iC (w1.heap.size+1) 180 i0 _ 3 24 Tryz.underlying283 aHT.out HZ0.out HZ1.out HZ2.out rfl bQ (.slice og i jM) i (Zb s.slots q i) iC (Ky.out.alloc _) ⟨wx.heap.size,0,none⟩ 1 1 [.int .u8 xt,aU xl,aU xh] iC iC (World.news_of_block (cs:=#[.int .u8 xt,aU xl,aU xh]) (t:=180) (fr:=(0,0)) (heap_alloc_new wx _)) aaK bQ JF bQ eU (wx.heap.size+1) dY ?_;intro gg cap w2 hown2 hgrow hat hlt1));go_roundw
      case rel =>
       go_light;have hne:∀ g,(Value.slice og i jM).ownBlock=some g→w1.heap.size+1≤g:=fun g hg=>(Ky.out.lt g hg).1;have hnb:some w1.heap.size≠(Value.slice og i jM).ownBlock:=fun e=>by have:=hne _ e.symm;omega
       refine⟨i+1,kk+1,hst.out.2.2,rfl,by have:=HKK.out;push_cast;omega,?_,?_,⟨_,_,rfl⟩,?_,?_,?_,?_⟩
       ·rw[hst.out.1,hst.out.2.1,←Qs.out]
       ·rw[HX.out]at hown2;exact hown2
       ·exact hgrow.cell ((((Below.refl wx.heap.size wx).alloc (Nat.le_refl _) _).cell (p:=⟨w1.heap.size,0,none⟩) (show w1.heap.size<wx.heap.size by omega)).trans bl0) hnb
       ·exact hgrow.cell ((((Below.refl wx.heap.size wx).alloc (Nat.le_refl _) _).cell (p:=⟨w1.heap.size,1,none⟩) (show w1.heap.size<wx.heap.size by omega)).trans bl1) hnb
       ·have:=hgrow.size;simp at this;omega
       ·exact Below.grown (sS.out.alloc bQ _) hgrow eU (fun g hg=>by have:=hne g hg;omega)
      case measure=>simp[intOf];omega
  ·obtain rfl:i=m:=bQ;have k1:¬kk≤H:=apq;have hres:=HV.out;rw[Nat.sub_self]at hres;have hR:=HR.out;rw[aHR hres]at hR;subst hR;obtain⟨gb,cap,hf,hgb⟩:=hown.form bQ;have HGB:=bW hgb;injection hf with hf1 hf2 hf3
   subst hf1;subst hf3;have o0:=ahj hown (show 0<i by omega) (bQ:0<3);have o1:=ahj hown (show 0<i by omega) (bQ:1<3);have o2:=ahj hown (show 0<i by omega) (bQ:2<3);simp only[Nat.zero_mul,Nat.zero_add,Nat.add_zero,amL,ajg,ajh]at o0 o1 o2;have i0':(0:Int)<i:=bQ;clear hv hB hkk hown hres;have uS:jM=1∨1<jM:=by
    rcases HOWN.out.2 with ⟨h1,h2⟩|⟨g',cap',cur,h1,h2,h3,h4,h5,h6⟩
    ·omega
    ·injection h1 with a1 a2 a3;subst a3;omega
   obtain⟨wo,hwo⟩:∃ x,x=wr:=⟨_,rfl⟩;subst hwo;rcases uS with rfl|hc1
   ·obtain rfl:i=1:=by
     rcases HOWN.out.2 with ⟨h1,h2⟩|⟨g',cap',cur,h1,h2,h3,h4,h5,h6⟩
     ·omega
     ·injection h1 with a1 a2 a3;omega
    go_wp2_with fail;go_loopw [68] (fun t w2=>∃ (j:Nat) (acc:P.B),t=aU j∧j≤0∧P.Img w2 wo.heap.size 3 (fV ⟨(s.slots q).kind,acc⟩)∧Yv s.slots 0 (q+1) (s.slots q).b=Yv s.slots (0-j) (q+1+j) acc∧Below wo.heap.size wo w2) (fun t _=>0-(intOf t).toNat)
    case atStart=>exact⟨0,(s.slots q).b,rfl,by omega,azb (heap_alloc_new wo _),rfl,(Below.refl _ _).alloc (Nat.le_refl _) _⟩
    case round =>
     obtain⟨w2,hw2⟩:∃ x,x=wr:=⟨_,rfl⟩;subst hw2;obtain⟨j,acc,rfl,hj,wL,hv,hb⟩:=hrel;refine azc ?_;intro LM HV HB2 zgb G0' E0' G1' E1' G2' E2';have zR:w.heap.size+1+1<w2.heap.size:=by have:=hb.size;omega
     clear G0 G1 G2 E0 E1 E2;refine azd ?_;intro zo u0 u1 u2 v1 v2;obtain rfl:j=0:=bQ;have hv':acc=(s.slots q).b:=hv.symm;subst hv';clear hv wL hb;go_wp2_with fail;refine bodyPost_ret (v:=.tuple #[.agg #[.int .u8 (letter (s.slots q).kind),aU (s.slots q).b.lo,aU (s.slots q).b.hi],aU 0]) ?_ rfl ⟨rfl,?_⟩
     ·exact apr
     ·exact aze
   ·have i1':(1:Int)≤i:=bQ;have c1':(1:Int)<jM:=bQ;go_wp2_with fail;go_loopw [68] (fun t w2=>∃ (j:Nat) (acc:P.B),t=aU j∧j≤i-1∧P.Img w2 wo.heap.size 3 (fV ⟨(s.slots q).kind,acc⟩)∧Yv s.slots (i-1) (q+1) (s.slots q).b=Yv s.slots (i-1-j) (q+1+j) acc∧Below wo.heap.size wo w2) (fun t _=>i-1-(intOf t).toNat)
    case atStart=>exact⟨0,(s.slots q).b,rfl,by omega,azb (heap_alloc_new wo _),rfl,(Below.refl _ _).alloc (Nat.le_refl _) _⟩
    case round =>
     obtain⟨w2,hw2⟩:∃ x,x=wr:=⟨_,rfl⟩;subst hw2;obtain⟨j,acc,rfl,hj,wL,hv,hb⟩:=hrel;refine azc ?_;intro LM HV HB2 zgb G0' E0' G1' E1' G2' E2';have zR:w.heap.size+1+1<w2.heap.size:=by have:=hb.size;omega
     clear G0 G1 G2 E0 E1 E2;refine azd ?_;intro zo u0 u1 u2 v1 v2;by_cases hlt:j<i-1
     ·have e0:w2.cell? ⟨gb,3+j*3,none⟩=some (.int .u8 (letter (s.slots (q+1+j)).kind)):=by
       have:=ahj HOWN.out (show j+1<i by omega) (bQ:0<3);rw[show(j+1)*3+0=3+j*3 by omega,show q+(j+1)=q+1+j by omega,amL]at this;exact(hb.cell (p:=⟨gb,3+j*3,none⟩) zgb).trans this
      have e1:w2.cell? ⟨gb,3+j*3+1,none⟩=some (aU (s.slots (q+1+j)).b.lo):=by
       have:=ahj HOWN.out (show j+1<i by omega) (bQ:1<3);rw[show(j+1)*3+1=3+j*3+1 by omega,show q+(j+1)=q+1+j by omega,ajg]at this;exact(hb.cell (p:=⟨gb,3+j*3+1,none⟩) zgb).trans this
      have e2:w2.cell? ⟨gb,3+j*3+2,none⟩=some (aU (s.slots (q+1+j)).b.hi):=by
       have:=ahj HOWN.out (show j+1<i by omega) (bQ:2<3);rw[show(j+1)*3+2=3+j*3+2 by omega,show q+(j+1)=q+1+j by omega,ajh]at this;exact(hb.cell (p:=⟨gb,3+j*3+2,none⟩) zgb).trans this
      have hj1:(j:Int)<(i:Int)-1:=bQ;have hj2:(j:Int)<((i-1:Nat):Int):=bQ;obtain⟨r,hr⟩:∃ r,i-1-j=r+1:=⟨i-1-j-1,by omega⟩;have HST:Hid (i-1-(j+1)=r∧j+1≤i-1):=⟨by omega,by omega⟩;rw[hr]at hv;have HV2:=bW hv;have zn5:¬w2.heap.size=wo.heap.size:=bQ;have zn6:¬w2.heap.size=gb:=bQ;have zn7:gb<w2.heap.size:=bQ;clear hv wL hb hr;go_wp2_with fail;refine(QO _ _ _ _ _).mono ?_;rintro e w3 ⟨rfl,hb3⟩;have hI3:=(LM.out.alloc _).later hb3 eU;have u1:=hI3.cell 1 bQ;have u2:=hI3.cell 2 bQ;simp only[ajg,ajh]at u1 u2;have v1:=hI3.free 1 bQ;have v2:=hI3.free 2 bQ;have HI3:=bW hI3;have HB3:=bW ((HB2.out.alloc bQ _).trans (hb3.mono eU));clear hI3 hb3 e0 e1 e2 u0 G0' G1' G2' E0' E1' E2';go_wp2_with fail;go_roundw
      case rel =>
       go_light;refine⟨j+1,wU acc (s.slots (q+1+j)).b,by go_num,HST.out.2,?_,?_,?_⟩
       ·refine((HI3.out.set (j:=1) bQ _).set (j:=2) bQ _).congr fun t ht=>?_;rcases t with _|_|_|t
        ·rfl
        ·rfl
        ·rfl
        ·omega
       ·rw[HST.out.1,HV2.out];rfl
       ·exact(HB3.out.setCell (Nat.le_refl _) _).setCell (Nat.le_refl _) _
      case measure=>simp[intOf];omega
     ·obtain rfl:j=i-1:=bQ;have hv':Yv s.slots (i-1) (q+1) (s.slots q).b=acc:=by rw[hv,Nat.sub_self];rfl
      have HVV:=bW hv';clear hv hv' wL hb HV;have hj3:¬((i-1:Nat):Int)<((i-1:Nat):Int):=bQ;go_wp2_with fail;refine bodyPost_ret (v:=.tuple #[.agg #[.int .u8 (letter (s.slots q).kind),aU acc.lo,aU acc.hi],aU 0]) ?_ rfl ⟨by rw[←HVV.out],?_⟩
      ·exact apr
      ·exact aze
theorem aHU(s:VS)(hs:kG s)(w:World)(hg:nH w)(a:Wh)(ha:iL a)(o:Int)(ho:In64 o) :
  Calls Tryz.prog 105 #[.agg (iK fV s).toArray,.agg #[.int .u8 (letter a.kind),aU a.b.lo,aU a.b.hi],aU o] w fun e w' =>
   e=.returned (.tuple #[.agg #[.int .u8 (letter (s.load a o).1.kind),aU (s.load a o).1.b.lo,aU (s.load a o).1.b.hi],aU (s.load a o).2])∧Below w.heap.size w w':=by
 by_cases he:(iD a o).2=0
 ·have hk:=acH ha he;obtain⟨-,hlo,hhi⟩:=agI ha he;have hok:=aps ha ho;have hrf:Ur a o=((iD a o).1,0):=by unfold Ur;rw[dB he,he]
  unfold VS.load;rw[dw aeJ];obtain⟨k,⟨l,h⟩⟩:=a;simp only at hk;generalize hv:iD ⟨k,⟨l,h⟩⟩ o=v at *;obtain⟨⟨L,H⟩,er⟩:=v;simp only at he hlo hhi hok hrf ⊢;subst he;by_cases h3:k=3
  ·subst h3;rw[dw dY];simp only[low,high,if_true]at hlo hhi;have Zc:=hok.2.2;simp only at Zc;refine amN ?_;intro q hq;have e:(L+16).toNat=q:=bQ;obtain⟨m,hm⟩:=Int.eq_ofNat_of_zero_le (show 0≤H-L+1 by omega);have e2:(H-L+1).toNat=m:=bQ;have K:=aHS s hs w hg l h ha.2 o ho q m L H hq bQ bQ bQ hrf;rw[e,e2];by_cases hl:L=H
   ·obtain rfl:m=1:=bQ;rw[dB hl];rw[aHN]at K;refine K.mono fun e w' he=>⟨he.1.trans ?_,he.2⟩;split<;>rfl
   ·rw[dw hl];rw[aHM bQ]at K;exact K
  ·rw[dB h3];exact aHV s w hg k l h bQ ha.2 o ho _ hrf
 ·have e:s.load a o=(.nil,(iD a o).2):=by unfold VS.load;rw[dB he]
  rw[e];exact aHW s w hg a ha o ho (Ur a o).1 (iD a o).2 (by unfold Ur;rfl) he
end Go.Proofs.YtglilddlhibogaaGreatDoor.W
