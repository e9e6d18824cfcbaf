/- A part of the proof; each theorem states its conditions. -/
import Derived.Test.YtglilddlhibogaaGreatDoorRef3
set_option linter.unusedSimpArgs false
set_option linter.unusedVariables false
set_option maxRecDepth 100000
set_option maxHeartbeats 100000000
namespace Go.Proofs.YtglilddlhibogaaGreatDoor.W
open Go.RowKit Go.Proofs.YtglilddlhibogaaGreatDoor.P
def rO(pl:List RP)(r:Int)(a:Nat):List RP:=(pl.take a).filter fun x=>decide (x.1.rank≤r)
def yO(pl:List RP)(r:Int)(a:Nat):List RP:=(pl.take a).filter fun x=>decide (r<x.1.rank)
theorem aNB{pl:List RP}{r:Int}{a:Nat}{x:RP}(h:pl[a]?=some x):rO pl r (a+1)=if x.1.rank≤r then rO pl r a++[x]else rO pl r a:=by
 unfold rO;rw[List.take_add_one,h,List.filter_append,Option.toList_some];by_cases e:x.1.rank≤r
 ·rw[dB e,List.filter_cons,dB aeI];rfl
 ·rw[dw e,List.filter_cons,dw aeI];simp
theorem aNC{pl:List RP}{r:Int}{a:Nat}{x:RP}(h:pl[a]?=some x):yO pl r (a+1)=if r<x.1.rank then yO pl r a++[x]else yO pl r a:=by
 unfold yO;rw[List.take_add_one,h,List.filter_append,Option.toList_some];by_cases e:r<x.1.rank
 ·rw[dB e,List.filter_cons,dB aeI];rfl
 ·rw[dw e,List.filter_cons,dw aeI];simp
theorem aND(pl:List RP)(r:Int)(a:Nat):(rO pl r a).length≤a:=by
 unfold rO;have:=List.length_filter_le (fun x:RP=>decide (x.1.rank≤r)) (pl.take a);rw[List.length_take]at this;omega
theorem aNE(pl:List RP)(r:Int)(a:Nat):(yO pl r a).length≤a:=by
 unfold yO;have:=List.length_filter_le (fun x:RP=>decide (r<x.1.rank)) (pl.take a);rw[List.length_take]at this;omega
theorem aNF{pl:List RP}{c:HC}(hl:pl.map (·.1)=c.l)(hs:Sorted c.l)(L:List Step)(r:Int)(y:RP)(hy:y.1=⟨c.next+1,r,L,fun _=>0⟩):(rO pl r pl.length++[y]++yO pl r pl.length).map (·.1)=(c.put L r).l:=by
 obtain⟨h1,h2⟩:=ayG r c.l hs;unfold rO yO HC.put;rw[List.take_length,←h1,←h2,←hl,List.filter_map,List.filter_map];simp[hy,Function.comp_def]
theorem anF{w w':World}{b:Nat}{t:TypeId}(h:Typed w b t)(hb:Below w.heap.size w w'):Typed w' b t:=by
 obtain⟨c,hc⟩:=h;exact⟨c,(hb.block _ (Array.getElem?_eq_some_iff.1 hc).1).trans hc⟩
theorem aNG{W:World}{C b:Nat}{c:HC}{v:Value}{pl:List RP}(h:nM W C c v pl)(ht:Typed W b 63)(u u':Value):nM ((W.setCell ⟨b,0,none⟩ u).setCell ⟨b,1,none⟩ u') C c v pl:=by
 have no:∀ {W:World} {k:Nat} {t:TypeId},Typed W b 63→Typed W k t→t≠63→¬k=b:=fun hW ht n e=>n ((e▸ht).same hW);have h10:=h.fG (D5 W b 0 u) (fun k hb=>by
  rcases iT.kind h hb with hb|hb
  ·exact no ht hb dS
  ·exact no ht hb dS) (fun k hk=>no ht hk dS) (fun k hk=>no ht hk dS)
 have t10:=Qm ht ⟨b,0,none⟩ u;exact h10.fG (D5 _ b 1 u') (fun k hb=>by
  rcases iT.kind h10 hb with hb|hb
  ·exact no t10 hb dS
  ·exact no t10 hb dS) (fun k hk=>no t10 hk dS) (fun k hk=>no t10 hk dS)
theorem aNH{w4 W5 w7 w8:World}{oy:Option Addr}{m cy g7 JH g8 agn:Nat}{l:List RP}{x:HP}(hB:Below w4.heap.size w4 W5)(hb7:Below W5.heap.size W5 w7)(hrow:w7.ownsRow w4.heap.size 60 1 (.slice oy m cy) m (l.map wR))
  (Tt:w7.ownsRow W5.heap.size 110 6 (.slice (some ⟨g7,0,none⟩) (0+x.code.length) JH) (0+x.code.length) ([]++rowOf x.code))
  (arT:w8.ownsRow w4.heap.size 60 1 (.slice (some ⟨g8,0,none⟩) (m+1) agn) (m+1) (l.map wR++[.pointer (some ⟨w7.heap.size,0,none⟩)]))
  (akW:((w7.alloc (.cells (TF x.id x.rank (.slice (some ⟨g7,0,none⟩) x.code.length JH) x.cells).toArray 59)).alloc (.cells #[.pointer (some ⟨w7.heap.size,0,none⟩)] 60)).grownBy w8 (Value.slice oy m cy).ownBlock) :
  w8.ownsRow w4.heap.size 60 1 (.slice (some ⟨g8,0,none⟩) (m+1) agn) (m+1) ((l++[(x,w7.heap.size,Value.slice (some ⟨g7,0,none⟩) x.code.length JH)]).map wR) ∧
  BD w8 (x,w7.heap.size,Value.slice (some ⟨g7,0,none⟩) x.code.length JH)∧Below w4.heap.size w4 w8:=by
 have hrl:=hrow.lt;have h47:w4.heap.size≤w7.heap.size:=Nat.le_trans hB.size hb7.size;refine⟨by rw[List.map_append];exact arT,⟨?_,?_⟩,?_⟩
 ·have hne:some w7.heap.size≠(Value.slice oy m cy).ownBlock:=fun e=>by have:=(hrl _ e.symm).2;omega
  rw[akW.block w7.heap.size eU hne,Below.heap_alloc _ _ _ dY];exact heap_alloc_new w7 _
 ·rw[Nat.zero_add,List.nil_append]at Tt;have h2:=(Tt.alloc (.cells (TF x.id x.rank (.slice (some ⟨g7,0,none⟩) x.code.length JH) x.cells).toArray 59)).alloc (.cells #[.pointer (some ⟨w7.heap.size,0,none⟩)] 60);have hf:=dQ.grown akW (M:=fun b=>(Value.slice oy m cy).ownBlock=some b) (fun b e=>e);exact amO (hf.row h2 fun b hb e=>by
   have t1:=kD h2 b hb
   have t2:=kD ((hrow.alloc (.cells (TF x.id x.rank (.slice (some ⟨g7,0,none⟩) x.code.length JH) x.cells).toArray 59)).alloc (.cells #[.pointer (some ⟨w7.heap.size,0,none⟩)] 60)) b e
   have:=t1.same t2
   revert this;decide) (Nat.zero_le _)
 ·exact Below.grown (((hB.trans (hb7.mono hB.size)).alloc h47 _).alloc eU _) akW eU (fun b hb=>(hrl b hb).1)
theorem aJp{w:World}{C:Nat}{c:HC}{v:Value}{pl:List RP}(h:nM w C c v pl)(hsort:Sorted c.l)(h8:c.l.length<8)(oa:Option Addr)(cap:Nat)(L:List Step)(rank:Int)(hcap:L.length≤cap)(hs:xY w oa (nth L) L.length)(hno:∀ a,oa=some a→a.block≠C)(hin:∀ j,j<L.length→In64 (nth L j).off∧In64 (nth L j).num)(ha:nH w)
  (hnx:0≤c.next∧c.next<1000000) (hv:(verify (nth L) L.length).1.1=0) :
  Calls Tryz.prog 20 #[.pointer (some ⟨C,0,none⟩),.slice oa L.length cap,aU rank] w fun e w'=>e=.returned (.tuple #[aU (c.next+1),.agg #[aU 0,aU (-1)]]) ∧
   ∃ v' jQ,nM w' C (c.put L rank) v' jQ∧dQ (iT C pl) w w'∧∀ b,iT C jQ b→iT C pl b∨w.heap.size≤b:=by
 have hpl:pl.length=c.l.length:=aqe;refine apT ?_;intro C1;obtain⟨hl1,hl2⟩:=aeK hv;unfold ac1 at C1;generalize verify (nth L) L.length=X at C1 hv;obtain⟨⟨er,p⟩,⟨lo,hi⟩⟩:=X;obtain rfl:er=0:=hv;obtain⟨a,rfl,hcs⟩:=hs bQ;obtain⟨og,cc,rfl,hcl⟩:=h.form;have Oi:=h.typed.lt;obtain⟨n,hn⟩:∃ n,pl.length=n:=⟨_,rfl⟩;have hn8:¬8≤(n:Int):=bQ;have aPL:n<8:=bQ;have hw1:IntKind.i64.wrap (c.next+1)=c.next+1:=X0;have c0:=h.cell0;have c1:=h.cell1;rw[hn]at c0;have HCS:=bW hcs;have uS:=bW C1;have U5:=bW hcl;have H:=bW h;have HN:=bW hn;have HS:=bW hsort;have HNO:=bW (hno a rfl);clear hno;clear C1 h hs hin ha hcs hcl hpl hn hsort;go_enter Tryz.func20,Tryz.ntmps20;go_upto_region 1 with fail;refine ati ?_;intro w1 hW hb1 LQ;have Ze:=bW (show Typed w1 w.heap.size 63 from hW▸⟨_,heap_alloc_new w _⟩);have HB1:=bW hb1;have Ny:=bW LQ;clear hW hb1 LQ;go_wp2_with fail;refine(uS.out _ HB1.out).mono ?_;rintro e w2 ⟨rfl,hb2⟩;have HB2:=bW (HB1.out.trans (hb2.mono HB1.out.size));have ajs:=bW hb2;have c02:=(HB2.out.cell (p:=⟨C,0,none⟩) Oi).trans c0;have c12:=(HB2.out.cell (p:=⟨C,1,none⟩) Oi).trans c1;have g02:=(HB2.out.frozen (p:=⟨C,0,none⟩) Oi).trans (H.out.free 0);have g12:=(HB2.out.frozen (p:=⟨C,1,none⟩) Oi).trans (H.out.free 1);have hC2:C<w2.heap.size:=Nat.lt_of_lt_of_le Oi HB2.out.size;clear hb2 c0 c1;go_upto_region 7 with fail;have hblk2:(w2.setCell ⟨C,1,none⟩ (aU (c.next+1))).heap[C]?=some (.cells #[.slice og n cc,aU (c.next+1)] 52 (0,0)):=by
  have hb:=(HB2.out.block C Oi).trans H.out.blk;rw[HN.out]at hb;simp[World.setCell,Array.getElem?_modify,hb]
 have hf2:dQ (fun b=>b=C) w (w2.setCell ⟨C,1,none⟩ (aU (c.next+1))):=(dQ.of HB2.out).trans (D5 w2 C 1 _);have av1:Typed (w2.setCell ⟨C,1,none⟩ (aU (c.next+1))) w.heap.size 63:=by
  obtain⟨q,hq⟩:=Ze.out;exact Qm ⟨q,(ajs.out.block _ (Array.getElem?_eq_some_iff.1 hq).1).trans hq⟩ _ _
 have i2:=(D5 w2 C 1 (aU (c.next+1))).img (Ny.out.later ajs.out (Ny.out.lt bQ)) bQ (show¬w.heap.size=C by omega);generalize World.setCell w2 _ _=w3 at hblk2 hf2 av1 i2 ⊢;generalize hW:World.alloc (World.alloc w3 _) _=w4;have aow:Below w3.heap.size w3 w4:=hW▸(((Below.refl w3.heap.size w3).alloc (Nat.le_refl _) _).alloc dY _);have hf4:dQ (fun b=>b=C) w w4:=hf2.trans (dQ.of aow);have hC3:C<w3.heap.size:=Nat.lt_of_lt_of_le Oi hf2.size;have av2:=(aow.block C hC3).trans hblk2;have noC:∀ {b:Nat} {t:TypeId},Typed w b t→t≠52→¬b=C:=fun ht ne e=>ne ((e▸ht).same H.out.typed);have HPR:=bW (fun(x:RP) (hx:x∈pl)=>(H.out.LP x hx).fG hf4 (noC (H.out.LP x hx).typed dS) (fun k hk=>noC hk dS));have aEC:=bW (show ∀ (i:Nat) x,pl[i]?=some x→∃ g,og=some ⟨g,0,none⟩∧g<w4.heap.size∧w4.cell? ⟨g,i,none⟩=some (wR x)from fun i x hx=>by
  obtain⟨g,hg,hgl,hc⟩:=U5.out i x hx
  have hgC:g≠C:=noC (kD H.out.row g (by rw[hg];rfl)) dS
  exact⟨g,hg,Nat.lt_of_lt_of_le hgl hf4.size,hf4.cell hc hgC⟩)
 have aED:=bW (i2.later aow (i2.lt bQ));have aNI:=bW (show Typed w4 w.heap.size 63 by obtain⟨q,hq⟩:=av1;exact⟨q,(aow.block _ (Array.getElem?_eq_some_iff.1 hq).1).trans hq⟩);have akX:=bW av2;have HF4:=bW hf4;have c04:w4.cell? ⟨C,0,none⟩=some (.slice og n cc):=(cell_of_row w4 C 0 _ _ (0,0) av2).trans rfl;have hC4:C<w4.heap.size:=Nat.lt_of_lt_of_le Oi hf4.size;have aEE:=bW (fun W (hb:Below w4.heap.size w4 W)=>(HCS.out.fG (hf4.trans (dQ.of hb)) (HNO.out)));clear hblk2 hf2 av1 i2 hW aow hf4 av2 c02 c12 g02 g12 Ny Ze HB2 ajs uS;obtain⟨i0,hi0,hz0,hz1,hz2⟩:=info_parts aCJ;go_wp2_with fail;go_loopw [43,10] (fun i lv wr=>∃ k:Nat,i=aU k∧k≤n∧wr.ownsRow w4.heap.size 60 1 lv (rO pl rank k).length ((rO pl rank k).map wR)∧Below w4.heap.size w4 wr) (fun i _ _=>n-(intOf i).toNat)
 case atStart=>exact⟨0,rfl,Nat.zero_le _,World.ownsRow_nil _ _ _ _,Below.refl _ _⟩
 case round =>
  obtain⟨k,rfl,hkn,hrow,hB⟩:=hrel;obtain⟨oy,cy,rfl⟩:=pI hrow;have hkl:=aND pl rank k;have uF:=bW hrow;have HB:=bW hB;have Gt:=hB.size;by_cases e:k<n
  ·have h1:(k:Int)<n:=bQ;obtain⟨y,hy⟩:∃ y,pl[k]?=some y:=⟨_,List.getElem?_eq_getElem ac3⟩;obtain⟨g,rfl,hgl,cy0⟩:=aEC.out k y hy;have hpy:=HPR.out y (List.mem_of_getElem? hy);have cy1:=(hB.cell (p:=⟨g,k,none⟩) hgl).trans cy0;have cz:wr.cell? ⟨y.2.1,1,none⟩=some (aU y.1.rank):=(hB.cell (p:=⟨y.2.1,1,none⟩) hpy.typed.lt).trans ((hpy.cell 1).trans rfl);have zy:y.2.1<wr.heap.size:=Nat.lt_of_lt_of_le hpy.typed.lt Gt;have hks:=aNB (r:=rank) hy;unfold wR at cy1;clear hpy hy cy0 hrow hB;by_cases he:y.1.rank≤rank
   ·rw[dB he]at hks;have YK:=bW hks;clear hks;go_wp2_with (at_builtin;refine wpList_append_lies _ iC (.tmp 53) (.tmp 55) 50 iC w4.heap.size 60 i0 _ 1 8 Tryz.underlying50 hi0 hz0 hz1 hz2 rfl bQ (.slice oy (rO pl rank k).length cy) (rO pl rank k).length ((rO pl rank k).map wR) iC (uF.out.alloc _) ⟨wr.heap.size,0,none⟩ 1 1 [.pointer (some ⟨y.2.1,0,none⟩)] iC iC (World.news_of_block (cs:=#[.pointer (some ⟨y.2.1,0,none⟩)]) (t:=60) (fr:=(0,0)) (heap_alloc_new wr _)) aaK bQ JF bQ eU (wr.heap.size+1) dY ?_;intro g7 JH w7 Tt Zg _ _);go_roundw
    case rel =>
     go_light;refine⟨k+1,by go_num,by omega,?_,?_⟩
     ·rw[YK.out,List.length_append,List.map_append];exact Tt
     ·exact aBD
    case measure=>simp[intOf];omega
   ·rw[dw he]at hks;have YK:=bW hks;clear hks;go_wp2_with fail;go_roundw
    case rel=>exact⟨k+1,by go_num,by omega,by rw[YK.out];exact uF.out,HB.out⟩
    case measure=>simp[intOf];omega
  ·obtain rfl:k=n:=bQ;have hb5:=hB;obtain⟨W5,hW5⟩:∃ z,z=wr:=⟨_,rfl⟩;subst hW5;have c1:W5.cell? ⟨C,1,none⟩=some (aU (c.next+1)):=(hb5.cell (p:=⟨C,1,none⟩) hC4).trans ((cell_of_row w4 C 1 _ _ (0,0) akX.out).trans rfl);have c0:=(hb5.cell (p:=⟨C,0,none⟩) hC4).trans c04;have hC5:C<W5.heap.size:=Nat.lt_of_lt_of_le hC4 Gt;obtain⟨i1,hi1,hz0',hz1',hz2'⟩:=info_parts atl;have HRL:=bW (amG L);have apy:=bW (fun O=>(show ∀ j u,(rowOf L)[j]?=some u→(W5.alloc O).cell? (a.add j)=some u by
    have:=(aEE.out _ (hb5.alloc Gt O)).row
    rwa [apz]at this))
   clear hrow hB hb5 c04;go_upto_region 14 with fail;go_cut [10] (fun lv W=>∃ (g8 agn:Nat) (y:RP),lv=.slice (some ⟨g8,0,none⟩) ((rO pl rank k).length+1) agn∧W.ownsRow w4.heap.size 60 1 lv ((rO pl rank k).length+1) ((rO pl rank k++[y]).map wR)∧BD W y∧w4.heap.size≤y.2.1∧y.1=⟨c.next+1,rank,L,fun _=>0⟩∧Below w4.heap.size w4 W)
   case first =>
    as_aux_lemma =>
     go_region_law (first
      |(refine step_append_lies _ iC (.tmp 64) (.tmp 65) 33 iC W5.heap.size 110 i1 _ 6 48 Tryz.underlying33 hi1 hz0' hz1' hz2' rfl bQ (.slice (some ⟨W5.heap.size,0,none⟩) 0 0) 0 [] iC ((azy (heap_alloc_new W5 _) (Nat.le_refl _)).drew) a L.length cap (rowOf L) iC HRL.out (apy.out _) (atm L) bQ JF bQ dY (W5.heap.size+1) dY ?_;intro g7 JH w7 Tt Zg _ _;have hb7:Below W5.heap.size W5 w7:=Below.grown (((Below.refl W5.heap.size W5).alloc (Nat.le_refl _) _).drew) Zg dY (fun b hb=>by cases hb;exact Nat.le_refl _);have c17:=(hb7.cell (p:=⟨C,1,none⟩) hC5).trans c1;have z7:C<w7.heap.size:=Nat.lt_of_lt_of_le hC5 hb7.size;have atn:=bW Tt;have HB7:=bW hb7;have ZR:=bW (ED uF.out hb7);have z47:w4.heap.size≤w7.heap.size:=Nat.le_trans Gt hb7.size;clear Tt Zg hb7)
      |(refine step_append_lies _ iC (.tmp 58) (.tmp 69) 50 iC w4.heap.size 60 i0 _ 1 8 Tryz.underlying50 hi0 hz0 hz1 hz2 rfl bQ (.slice oy (rO pl rank k).length cy) (rO pl rank k).length ((rO pl rank k).map wR) iC ((ZR.out.alloc _).alloc _) ⟨w7.heap.size+1,0,none⟩ 1 1 [.pointer (some ⟨w7.heap.size,0,none⟩)] iC iC (World.news_of_block (cs:=#[.pointer (some ⟨w7.heap.size,0,none⟩)]) (t:=60) (fr:=(0,0)) (by simpa using heap_alloc_new (World.alloc w7 _) _)) aaK bQ JF bQ eU (w7.heap.size+1+1) dY ?_;intro g8 agn w8 arT akW _ _;obtain⟨r8,p8,b8⟩:=aNH (x:=(⟨c.next+1,rank,L,fun _=>0⟩:HP)) HB.out HB7.out ZR.out atn.out arT akW;have c18:=(b8.cell (p:=⟨C,1,none⟩) hC4).trans ((cell_of_row w4 C 1 _ _ (0,0) akX.out).trans rfl);have HR8:=bW r8;have JX:=bW p8;have Ov:=bW b8;clear arT akW r8 p8 b8))
     all_goals
      go_wp2_with fail;go_meet
      go_light;exact⟨g8,agn,((⟨c.next+1,rank,L,fun _=>0⟩:HP),w7.heap.size,.slice (some ⟨g7,0,none⟩) L.length JH),rfl,HR8.out,JX.out,z47,rfl,Ov.out⟩
   case rest =>
    obtain⟨g8,agn,y,rfl,JW,QU,hyb,hy1,hb8⟩:=hcut;obtain⟨w8,hw8⟩:∃ x,x=wc:=⟨_,rfl⟩;subst hw8;have aNJ:=bW hkl;have HR:=bW JW;have HP:=bW QU;have HY1:=bW hy1;have Ov:=bW hb8;have c08:w8.cell? ⟨C,0,none⟩=some (.slice og k cc):=(Ov.out.cell (p:=⟨C,0,none⟩) hC4).trans ((cell_of_row w4 C 0 _ _ (0,0) akX.out).trans rfl);have hC8:C<w8.heap.size:=Nat.lt_of_lt_of_le hC4 Ov.out.size;clear hy1 c0 c1 apy aEE HB uF hkl JW QU hb8;go_wp2_with fail;go_loopw [76,10] (fun i lv wr=>∃ j:Nat,i=aU j∧j≤k∧wr.ownsRow w4.heap.size 60 1 lv ((rO pl rank k).length+1+(yO pl rank j).length) ((rO pl rank k++[y]++yO pl rank j).map wR)∧BD wr y∧Below w4.heap.size w4 wr) (fun i _ _=>k-(intOf i).toNat)
    case atStart=>exact⟨0,rfl,Nat.zero_le _,by simpa[yO]using HR.out,HP.out,Ov.out⟩
    case round =>
     obtain⟨j,rfl,hjk,hrow,hp,hB⟩:=hrel;obtain⟨oy2,cy2,rfl⟩:=pI hrow;have hhl:=aNE pl rank j;have hll:=aNJ.out;have uF:=bW hrow;have HB:=bW hB;have HPY:=bW hp;have Gt:=hB.size;by_cases e2:j<k
     ·have h1:(j:Int)<k:=bQ;obtain⟨z,hz⟩:∃ z,pl[j]?=some z:=⟨_,List.getElem?_eq_getElem ac3⟩;obtain⟨g,rfl,hgl,cy0⟩:=aEC.out j z hz;have hpz:=HPR.out z (List.mem_of_getElem? hz);have cy1:=(hB.cell (p:=⟨g,j,none⟩) hgl).trans cy0;have cz:wr.cell? ⟨z.2.1,1,none⟩=some (aU z.1.rank):=(hB.cell (p:=⟨z.2.1,1,none⟩) hpz.typed.lt).trans ((hpz.cell 1).trans rfl);have zy:z.2.1<wr.heap.size:=Nat.lt_of_lt_of_le hpz.typed.lt Gt;have hks:=aNC (r:=rank) hz;unfold wR at cy1;clear hpz hz cy0 hrow hB hp;by_cases he:rank<z.1.rank
      ·rw[dB he]at hks;have YK:=bW hks;clear hks;go_wp2_with (at_builtin;refine wpList_append_lies _ iC (.tmp 86) (.tmp 88) 50 iC w4.heap.size 60 i0 _ 1 8 Tryz.underlying50 hi0 hz0 hz1 hz2 rfl bQ (.slice oy2 ((rO pl rank k).length+1+(yO pl rank j).length) cy2) ((rO pl rank k).length+1+(yO pl rank j).length) ((rO pl rank k++[y]++yO pl rank j).map wR) iC (uF.out.alloc _) ⟨wr.heap.size,0,none⟩ 1 1 [.pointer (some ⟨z.2.1,0,none⟩)] iC iC (World.news_of_block (cs:=#[.pointer (some ⟨z.2.1,0,none⟩)]) (t:=60) (fr:=(0,0)) (heap_alloc_new wr _)) aaK bQ JF bQ eU (wr.heap.size+1) dY ?_;intro g9 JK w9 aNK aEF _ _);go_roundw
       case rel =>
        go_light;refine⟨j+1,by go_num,by omega,?_,?_,?_⟩
        ·rw[YK.out,←List.append_assoc,List.length_append,List.map_append (l₁:=rO pl rank k++[y]++yO pl rank j),←Nat.add_assoc];exact aNK
        ·have hfa:dQ (fun _=>False) wr (wr.alloc (.cells #[.pointer (some ⟨z.2.1,0,none⟩)] 60)):=dQ.of ((Below.refl wr.heap.size wr).alloc (Nat.le_refl _) _);have hpa:=HPY.out.fG hfa (fun h=>h) (fun _ _ h=>h);have hra:=uF.out.alloc (.cells #[.pointer (some ⟨z.2.1,0,none⟩)] 60);refine hpa.fG (dQ.grown aEF (M:=fun b=>(Value.slice oy2 ((rO pl rank k).length+1+(yO pl rank j).length) cy2).ownBlock=some b) (fun b e=>e)) (fun e=>?_) (fun b hb e=>?_)
         ·have:=hpa.typed.same (kD hra _ e);revert this;decide
         ·have:=hb.same (kD hra _ e);revert this;decide
        ·exact Below.grown (HB.out.alloc Gt _) aEF eU (fun b hb=>(uF.out.lt b hb).1)
       case measure=>simp[intOf];omega
      ·rw[dw he]at hks;have YK:=bW hks;clear hks;go_wp2_with fail;go_roundw
       case rel=>exact⟨j+1,by go_num,by omega,by rw[YK.out];exact uF.out,HPY.out,HB.out⟩
       case measure=>simp[intOf];omega
     ·obtain rfl:j=k:=bQ;have hlen:(rO pl rank j++[y]++yO pl rank j).length=(rO pl rank j).length+1+(yO pl rank j).length:=eU;have hpart:=aNF H.out.l HS.out L rank y HY1.out;rw[HN.out]at hpart;have hmem:∀ x∈rO pl rank j++[y]++yO pl rank j,x=y∨x∈pl:=fun x hx=>by
       rcases List.mem_append.1 hx with hx|hx
       ·rcases List.mem_append.1 hx with hx|hx
        ·exact .inr (List.mem_of_mem_take (List.mem_filter.1 hx).1)
        ·exact .inl (List.mem_singleton.1 hx)
       ·exact .inr (List.mem_of_mem_take (List.mem_filter.1 hx).1)
      have hnd:((rO pl rank j++[y]++yO pl rank j).map (·.2.1)).Nodup:=by
       have hfull:pl.take j=pl:=List.take_of_length_le (by rw[HN.out];exact Nat.le_refl _);have h1:(rO pl rank j++[y]++yO pl rank j).Perm (y::(rO pl rank j++yO pl rank j)):=by
        rw[List.append_assoc];exact List.perm_middle
       have h2:(rO pl rank j++yO pl rank j).Perm pl:=by
        unfold rO yO;rw[hfull];have:=List.filter_append_perm (fun x:RP=>decide (x.1.rank≤rank)) pl;refine(List.Perm.of_eq ?_).trans this;congr 1
        apply List.filter_congr;intro x _;by_cases hx:x.1.rank≤rank
        ·simp[hx]
        ·simp[hx];omega
       rw[((h1.trans (h2.cons y)).map (·.2.1)).nodup_iff,List.map_cons,List.nodup_cons];refine⟨fun hin=>?_,H.out.apart⟩;obtain⟨z,hz,he⟩:=List.mem_map.1 hin;have h3:=(HPR.out z hz).typed.lt;rw[he]at h3;omega
      have hch:=aCK (C:=C) (c':=c.put L rank) (jQ:=rO pl rank j++[y]++yO pl rank j) ((HB.out.block C hC4).trans akX.out) hpart (by rw[hlen];exact uF.out) (fun x hx=>by
       rcases hmem x hx with rfl|hx
       ·exact HPY.out
       ·exact(HPR.out x hx).fG (M:=fun _=>False) (dQ.of (HB.out.mono (Nat.le_refl _))) (fun h=>h) (fun _ _ h=>h)) hnd
      have c05:wr.cell? ⟨C,0,none⟩=some (.slice og j cc):=(HB.out.cell (p:=⟨C,0,none⟩) hC4).trans ((cell_of_row w4 C 0 _ _ (0,0) akX.out).trans rfl);have f05:wr.frozen? ⟨C,0,none⟩=false:=by have:=(HB.out.block C hC4).trans akX.out;simp[World.frozen?,this]
      have hC9:C<wr.heap.size:=Nat.lt_of_lt_of_le hC4 Gt;have i9:=(D5 wr C 0 (.slice oy2 ((rO pl rank j).length+1+(yO pl rank j).length) cy2)).img (aED.out.later HB.out (aED.out.lt bQ)) bQ (show¬w.heap.size=C by omega);have t9:Typed (wr.setCell ⟨C,0,none⟩ (.slice oy2 ((rO pl rank j).length+1+(yO pl rank j).length) cy2)) w.heap.size 63:=by
       obtain⟨q,hq⟩:=aNI.out;exact Qm ⟨q,(HB.out.block _ (Array.getElem?_eq_some_iff.1 hq).1).trans hq⟩ _ _
      have fr9:dQ (iT C pl) w (wr.setCell ⟨C,0,none⟩ (.slice oy2 ((rO pl rank j).length+1+(yO pl rank j).length) cy2)):=((HF4.out.mono fun b _ e=>.inl e).trans (dQ.of (HB.out.mono (Nat.le_refl _)))).trans ((D5 wr C 0 _).mono fun b _ e=>.inl e);have HOW:=bW (show ∀ b,iT C (rO pl rank j++[y]++yO pl rank j) b→iT C pl b∨w.heap.size≤b from fun b hb=>by
       rcases hb with hb|⟨x,hx,hb⟩
       ·exact .inl (.inl hb)
       ·rcases hmem x hx with rfl|hx
        ·exact .inr (by rw[←hb];exact Nat.le_trans HF4.out.size hyb)
        ·exact .inl (.inr ⟨x,hx,hb⟩))
      clear hrow hB hp hpart hmem hnd hlen;go_upto_region 22 with fail;generalize World.setCell wr _ _=W1 at hch i9 t9 fr9 ⊢;have c19:W1.cell? ⟨C,1,none⟩=some (aU (c.next+1)):=hch.cell1;have aNL:C<W1.heap.size:=hch.typed.lt;have uw:=bW hch;have HI9:=bW i9;have HT9:=bW t9;have aNM:=bW fr9;clear hch i9 t9 fr9 c05 f05 c08;go_region_with (first
       |(go_at_call 18;refine(Yk _ _).mono ?_;rintro e w9 ⟨rfl,akY⟩;have XK:Below W1.heap.size W1 w9:=⟨akY.os,akY.tape,akY.output,akY.size,akY.block⟩;have c1a:=(XK.cell (p:=⟨C,1,none⟩) aNL).trans c19;have ia:=HI9.out.later XK (HI9.out.lt bQ);have b0:=ia.cell 0 bQ;have b1:=ia.cell 1 bQ;have g0:=ia.free 0 bQ;have g1:=ia.free 1 bQ;have z9:w.heap.size<w9.heap.size:=ia.lt bQ;have HB9:=bW XK;clear XK akY ia))
      all_goals
       go_wp2_with fail;refine bodyPost_ret (v:=.tuple #[aU (c.next+1),.agg #[aU 0,aU (-1)]]) (by simp[results,Tryz.results20,go_sem,b0,b1,g0,g1,z9]) rfl ⟨rfl,_,rO pl rank j++[y]++yO pl rank j,aNG (uw.out.later HB9.out) (anF HT9.out HB9.out) _ _,?_,HOW.out⟩;exact((aNM.out.trans (dQ.of HB9.out)).apA (p:=⟨w.heap.size,0,none⟩) (Nat.le_refl _) _).apA (p:=⟨w.heap.size,1,none⟩) (Nat.le_refl _) _
theorem aJm{w:World}(C:Nat)(oa:Option Addr)(cap:Nat)(L:List Step)(rank:Int)(hcap:L.length≤cap)(hs:xY w oa (nth L) L.length)(hin:∀ j,j<L.length→In64 (nth L j).off∧In64 (nth L j).num)(ha:nH w)
  (hv:(verify (nth L) L.length).1.1≠0) :
  Calls Tryz.prog 20 #[.pointer (some ⟨C,0,none⟩),.slice oa L.length cap,aU rank] w fun e w'=>e=.returned (.tuple #[aU 0,.agg #[aU (verify (nth L) L.length).1.1,aU (verify (nth L) L.length).1.2]])∧Below w.heap.size w w':=by
 refine apT ?_;intro C1;unfold ac1 at C1;generalize verify (nth L) L.length=X at C1 hv ⊢;obtain⟨⟨er,p⟩,⟨lo,hi⟩⟩:=X;have hne:(er==0)=false:=by simpa using hv
 have uS:=bW C1;clear C1 hs hin ha hv;go_enter Tryz.func20,Tryz.ntmps20;go_upto_region 1 with fail;refine apB ?_;intro w1 HB1 Ny;go_wp2_with fail;refine(uS.out _ HB1.out).mono ?_;refine ato ?_;intro w2 HB2 b0 b1 g0 g1 z2;go_wp2_with fail;go_region;all_goals
  go_wp2_with fail;exact bodyPost_ret (v:=.tuple #[aU 0,.agg #[aU er,aU p]]) aBL rfl ⟨rfl,apC⟩
theorem aJn{w:World}{C:Nat}{c:HC}{v:Value}{pl:List RP}(h:nM w C c v pl)(h8:8≤c.l.length)(oa:Option Addr)(cap:Nat)(L:List Step)(rank:Int)(hcap:L.length≤cap)(hs:xY w oa (nth L) L.length)(hin:∀ j,j<L.length→In64 (nth L j).off∧In64 (nth L j).num)(ha:nH w)
  (hv:(verify (nth L) L.length).1.1=0) :
  Calls Tryz.prog 20 #[.pointer (some ⟨C,0,none⟩),.slice oa L.length cap,aU rank] w fun e w'=>e=.returned (.tuple #[aU 0,.agg #[aU 12,aU (-1)]])∧Below w.heap.size w w':=by
 have hpl:pl.length=c.l.length:=aqe;refine apT ?_;intro C1;unfold ac1 at C1;generalize verify (nth L) L.length=X at C1 hv;obtain⟨⟨er,p⟩,⟨lo,hi⟩⟩:=X;obtain rfl:er=0:=hv;obtain⟨og,cc,rfl,-⟩:=h.form;have c0:=h.cell0;have Oi:=h.typed.lt;rw[hpl]at c0;have k8:8≤(c.l.length:Int):=bQ;have uS:=bW C1;clear C1 hs hin ha h hpl h8;go_enter Tryz.func20,Tryz.ntmps20;go_upto_region 1 with fail;refine apB ?_;intro w1 HB1 Ny;go_wp2_with fail;refine(uS.out _ HB1.out).mono ?_;rintro e w2 ⟨rfl,hb2⟩;have c02:=((HB1.out.trans (hb2.mono HB1.out.size)).cell (p:=⟨C,0,none⟩) Oi).trans c0;have hC2:C<w2.heap.size:=Nat.lt_of_lt_of_le Oi (HB1.out.trans (hb2.mono HB1.out.size)).size;have HB3:=bW (HB1.out.trans (hb2.mono HB1.out.size));have I2:=bW (Ny.out.later hb2 (Ny.out.lt bQ));clear hb2;go_wp2_with fail;generalize hW:World.alloc (World.alloc w2 _) _=w3;have hb3:Below w2.heap.size w2 w3:=hW▸(((Below.refl w2.heap.size w2).alloc (Nat.le_refl _) _).alloc dY _);have HB4:=bW (HB3.out.trans (hb3.mono HB3.out.size));have I3:=bW (I2.out.later hb3 (I2.out.lt bQ));clear hW hb3 c02 hC2;refine(Yk _ _).mono ?_;rintro e w4 ⟨rfl,hb4⟩;have HB2:=bW (HB4.out.trans (hb4.mono HB4.out.size));have I4:=I3.out.later hb4 (I3.out.lt bQ);have b0:=I4.cell 0 bQ;have b1:=I4.cell 1 bQ;have g0:=I4.free 0 bQ;have g1:=I4.free 1 bQ;have z2:w.heap.size<w4.heap.size:=I4.lt bQ;clear hb4 I4;go_wp2_with fail
 exact bodyPost_ret (v:=.tuple #[aU 0,.agg #[aU 12,aU (-1)]]) aBL rfl ⟨rfl,apC⟩
theorem aJo{w:World}{C:Nat}{c:HC}{v:Value}{pl:List RP}(h:nM w C c v pl)(hsort:Sorted c.l)(oa:Option Addr)(cap:Nat)(L:List Step)(rank:Int)(hcap:L.length≤cap)(hs:xY w oa (nth L) L.length)(hno:0<L.length→∀ a,oa=some a→a.block≠C)(hin:∀ j,j<L.length→In64 (nth L j).off∧In64 (nth L j).num)(ha:nH w)
  (hnx:0≤c.next∧c.next<1000000) :
  Calls Tryz.prog 20 #[.pointer (some ⟨C,0,none⟩),.slice oa L.length cap,aU rank] w fun e w'=>e=.returned (.tuple #[aU (c.attach L rank).2.1,.agg #[aU (c.attach L rank).2.2.1,aU (c.attach L rank).2.2.2]]) ∧
   ∃ v' jQ,nM w' C (c.attach L rank).1 v' jQ∧dQ (iT C pl) w w'∧∀ b,iT C jQ b→iT C pl b∨w.heap.size≤b:=by
 by_cases hv:(verify (nth L) L.length).1.1=0
 ·by_cases h8:c.l.length<8
  ·have e:c.attach L rank=(c.put L rank,c.next+1,(0,-1)):=by unfold HC.attach;rw[dw ac2,dw bQ]
   rw[e];exact aJp h hsort h8 oa cap L rank hcap hs (hno (by have:=aeK hv;omega)) hin ha hnx hv
  ·have e:c.attach L rank=(c,0,(12,-1)):=by unfold HC.attach;rw[dw ac2,dB bQ]
   rw[e];exact(aJn h bQ oa cap L rank hcap hs hin ha hv).mono fun e w' ⟨he,hb⟩=>⟨he,v,pl,h.later hb,dQ.of hb,fun b hb=>.inl hb⟩
 ·have e:c.attach L rank=(c,0,(verify (nth L) L.length).1):=auU;rw[e];exact(aJm C oa cap L rank hcap hs hin ha hv).mono fun e w' ⟨he,hb⟩=>⟨he,v,pl,h.later hb,dQ.of hb,fun b hb=>.inl hb⟩
theorem aNn{W:World}{b:Nat}{x y z:Int}{o:Value}(h:P.Img W b 4 (fun j=>([aU x,aU y,o,aU z]:List Value).getD j undef)):(loadVar 99 ⟨b,0,none⟩).run Tryz.prog W=.ok (.agg #[aU x,aU y,o,aU z]) W :=
 run_loadVar_mid W b 0 _ [aU x,aU y,o,aU z] _ (fun j v hv=>by
  have hj:j<4:=aoG
  rw[Nat.zero_add,h.cell j hj,←hv]
  rcases j with _|_|_|_|j
  all_goals first|rfl|omega) Tryz.underlying99 rfl dF
theorem aB6{W:World}{b:Nat}{told:Nat→Int}{x:RP}(hT:P.Img W b 8 (fun j=>([aU (told 0),aU (told 1),aU (told 2),aU (told 3),aU (told 4),aU (told 5),aU (told 6),aU (told 7)]:List Value).getD j undef))(h:BD W x) :
  W.cell? ⟨b,0,none⟩=some (aU (told 0))∧W.cell? ⟨b,1,none⟩=some (aU (told 1))∧W.cell? ⟨b,2,none⟩=some (aU (told 2))∧W.cell? ⟨b,3,none⟩=some (aU (told 3))∧W.cell? ⟨b,4,none⟩=some (aU (told 4))∧W.cell? ⟨b,5,none⟩=some (aU (told 5))∧W.cell? ⟨b,6,none⟩=some (aU (told 6))∧W.cell? ⟨b,7,none⟩=some (aU (told 7)) ∧
  W.cell? ⟨x.2.1,2,none⟩=some x.2.2∧W.cell? ⟨x.2.1,3,none⟩=some (aU (x.1.cells 0))∧W.cell? ⟨x.2.1,4,none⟩=some (aU (x.1.cells 1))∧W.cell? ⟨x.2.1,5,none⟩=some (aU (x.1.cells 2))∧W.cell? ⟨x.2.1,6,none⟩=some (aU (x.1.cells 3))∧W.cell? ⟨x.2.1,7,none⟩=some (aU (x.1.cells 4))∧W.cell? ⟨x.2.1,8,none⟩=some (aU (x.1.cells 5))∧W.cell? ⟨x.2.1,9,none⟩=some (aU (x.1.cells 6))∧W.cell? ⟨x.2.1,10,none⟩=some (aU (x.1.cells 7)) ∧
  W.cell? ⟨x.2.1,11,none⟩=some (aU (x.1.cells 8))∧W.cell? ⟨x.2.1,12,none⟩=some (aU (x.1.cells 9))∧W.cell? ⟨x.2.1,13,none⟩=some (aU (x.1.cells 10))∧W.cell? ⟨x.2.1,14,none⟩=some (aU (x.1.cells 11))∧W.cell? ⟨x.2.1,15,none⟩=some (aU (x.1.cells 12))∧W.cell? ⟨x.2.1,16,none⟩=some (aU (x.1.cells 13))∧W.cell? ⟨x.2.1,17,none⟩=some (aU (x.1.cells 14))∧W.cell? ⟨x.2.1,18,none⟩=some (aU (x.1.cells 15)) :=
 ⟨hT.cell 0 bQ,hT.cell 1 bQ,hT.cell 2 bQ,hT.cell 3 bQ,hT.cell 4 bQ,hT.cell 5 bQ,hT.cell 6 bQ,hT.cell 7 bQ,h.cell 2,h.cell 3,h.cell 4,h.cell 5,h.cell 6,h.cell 7,h.cell 8,h.cell 9,h.cell 10,h.cell 11,h.cell 12,h.cell 13,h.cell 14,h.cell 15,h.cell 16,h.cell 17,h.cell 18⟩
theorem BD.later{W W':World}{x:RP}(h:BD W x)(hb:Below W.heap.size W W'):BD W' x:=h.fG (M:=fun _=>False) (dQ.of hb) (fun h=>h) (fun _ _ h=>h)
theorem BD.prog{W:World}{x:RP}(h:BD W x):∃ Ey Ez,x.2.2=.slice Ey x.1.code.length Ez∧x.1.code.length≤Ez∧xY W Ey (nth x.1.code) x.1.code.length:=by
 have hr:=h.code;rcases h.code.2 with ⟨hv,h0⟩|⟨g,c,cur,hv,_,_,hc,_⟩
 ·exact⟨none,0,by rw[hv,h0],by omega,fun h=>by omega⟩
 ·refine⟨_,c,hv,by omega,fun _=>⟨_,rfl,?_⟩⟩;rw[hv]at hr;exact ayx rfl hr
structure agc(w w1:World)(C:Nat)(c:HC)(told:Nat→Int)(time:Int)(v:Value)(pl0:List RP)(i:Nat)(L:List HP)(s:Sd)(out:Value)(pl:List RP)(wr:World):Prop where
 le:i≤pl0.length
 len:pl.length=pl0.length
 state:(s.oW=0∧s.num=0∧hrun told time c.l .zero=(L.take i++(hrun told time (L.drop i) s).1,(hrun told time (L.drop i) s).2)∧L.drop i=c.l.drop i)∨(s.oW≠0∧hrun told time c.l .zero=(L,s))
 chain:nM wr C ⟨L,c.next⟩ v pl
 owns:∀ b,iT C pl b→iT C pl0 b
 said:P.Img wr (w.heap.size+1+1) 4 (fun j=>([aU s.oW,aU s.num,out,aU s.steps]:List Value).getD j undef)
 out:wr.ownsRow w1.heap.size 2 1 out s.out.length (s.out.map (Value.int .i64))
 few:s.out.length≤50*i
 steps:0≤s.steps∧s.steps≤200*i
 told:P.Img wr w.heap.size 8 (fun j=>([aU (told 0),aU (told 1),aU (told 2),aU (told 3),aU (told 4),aU (told 5),aU (told 6),aU (told 7)]:List Value).getD j undef)
 res:P.Img wr (w.heap.size+1) 4 (fun j=>([aU 0,aU 0,.slice none 0 0,aU 0]:List Value).getD j undef)
 au6:Typed wr (w.heap.size+1+1) 99
 resT:Typed wr (w.heap.size+1) 99
 fG:dQ (iT C pl0) w wr
 later:w1.heap.size≤wr.heap.size
theorem Typed.fG{W W':World}{b:Nat}{t:TypeId}{M:Nat→Prop}(h:Typed W b t)(hf:dQ M W W')(hn:¬M b):Typed W' b t:=by
 obtain⟨c,hc⟩:=h;exact⟨c,(hf.block b (Array.getElem?_eq_some_iff.1 hc).1 hn).trans hc⟩
theorem nM.amq{W W':World}{C:Nat}{c:HC}{v:Value}{pl:List RP}{M:Nat→Prop}{t:TypeId}(h:nM W C c v pl)(hf:dQ M W W')(hM:∀ b,M b→Typed W b t)(n1:t≠52)(n2:t≠59)(n3:t≠110)(n4:t≠60):nM W' C c v pl:=by
 refine h.fG hf (fun b hb m=>?_) (fun k hk m=>n3 ((hM k m).same hk)) fun k hk m=>n4 ((hM k m).same hk);rcases iT.kind h hb with x|x
 ·exact n1 ((hM b m).same x)
 ·exact n2 ((hM b m).same x)
theorem aCc{w w1:World}{C:Nat}{c:HC}{told:Nat→Int}{time:Int}{v:Value}{pl0:List RP}{i:Nat}{L:List HP}{s:Sd}{out:Value}{pl:List RP}{wr:World}(h0:nM w C c v pl0)(h:agc w w1 C c told time v pl0 i L s out pl wr)(h1:w1.heap.size=w.heap.size+1+1+1)
  (hR:hrun told time c.l .zero=(L,s)) {W':World} (PF:dQ (fun k=>k=w.heap.size+1) wr W') :
  W'.ownsRow w.heap.size 2 1 out (hrun told time c.l .zero).2.out.length ((hrun told time c.l .zero).2.out.map (Value.int .i64))∧nM W' C ⟨(hrun told time c.l .zero).1,c.next⟩ v pl∧dQ (iT C pl0) w W':=by
 rw[hR];have hl:=h.later;refine⟨World.ownsRow.mono (base':=w.heap.size) (PF.row h.out fun k hk (e:k=w.heap.size+1)=>by have:=(h.out.lt k hk).1;omega) bQ,h.chain.amq PF (fun b e=>e▸h.resT) dS dS dS dS,?_⟩;exact((h.fG.mono (M':=fun b=>iT C pl0 b∨b=w.heap.size+1) fun k _ e=>.inl e).trans (PF.mono fun k _ e=>.inr e)).mono fun k hk e=>e.elim id fun e=>by omega
theorem agc.ends{w w1:World}{C:Nat}{c:HC}{told:Nat→Int}{time:Int}{v:Value}{pl0:List RP}{i:Nat}{L:List HP}{s:Sd}{out:Value}{pl:List RP}{wr:World}(h:agc w w1 C c told time v pl0 i L s out pl wr)(hi:i=pl0.length):hrun told time c.l .zero=(L,s):=by
 have hL:L.length=pl.length:=by have:=congrArg List.length h.chain.l;simpa using this.symm
 rcases h.state with ⟨-,-,e,-⟩|⟨-,e⟩
 ·rw[List.drop_of_length_le (by rw[hL,h.len];omega),List.take_of_length_le (by rw[hL,h.len];omega)]at e;simpa[hrun]using e
 ·exact e
theorem akz(W:World)(X Y:Obj):((W.alloc X).alloc Y).heap[W.heap.size]?=some X:=by
 have:=(Below.heap_alloc (W.alloc X) Y W.heap.size dY).trans (heap_alloc_new W X);exact this
theorem akA(W:World)(X Y:Obj):((W.alloc X).alloc Y).heap[W.heap.size+1]?=some Y:=by
 have:=heap_alloc_new (W.alloc X) Y;simpa using this
theorem Tz{w:World}{b n:Nat}{c:Array Value}{t:TypeId}(h:w.heap[b]?=some (.cells c t (0,0)))(hn:c.size=n):w.there b 0 n:=by
 subst hn;refine Yj (I:=fun j=>c.getD j undef) (Img.of_cells h rfl fun j hj=>?_);simp[hj]
theorem aNo{w:World}{b n g o:Nat}{vs:List Value}(h:w.there b 0 n)(hne:b≠g):(w.setCells g o vs).there b 0 n:=by
 intro j hj;obtain⟨h1,h2⟩:=h j hj;refine⟨?_,?_⟩
 ·rw[World.cell?_setCells_out g vs o w ⟨b,0+j,none⟩ (fun e=>absurd e hne)];exact h1
 ·rw[World.frozen?_setCells];exact h2
theorem aky{wr W:World}{m k B0:Nat}{arr Vb:Array Value}{num st:Int}{M:dM}{yG:Option Addr}{cap5:Nat}(hb:Below wr.heap.size wr W)(hm:wr.heap.size≤m)(hk:wr.heap.size≤k)(h1:W.there m 0 19)(h2:W.there k 0 2)(hne:m≠k)
  (e1:arr.toList=YF num M.cells (.slice yG M.out.length cap5) st) (e2:Vb.toList=[aU 0,aU (-1)]) (hrow:W.ownsRow B0 2 1 (.slice yG M.out.length cap5) M.out.length (M.out.map (Value.int .i64))) (hn:∀ b,(Value.slice yG M.out.length cap5).ownBlock=some b→b≠m∧b≠k) :
  (storeCells ⟨m,0,none⟩ arr.toList 0).run Tryz.prog W=.ok () (W.setCells m 0 arr.toList)∧(storeCells ⟨k,0,none⟩ Vb.toList 0).run Tryz.prog (W.setCells m 0 arr.toList)=.ok () ((W.setCells m 0 arr.toList).setCells k 0 Vb.toList) ∧
  Hid (∃ (m':Nat) (og:Option Addr) (cap:Nat),Value.pointer (some ⟨m,0,none⟩)=.pointer (some ⟨m',0,none⟩)∧wr.heap.size≤m'∧P.Img ((W.setCells m 0 arr.toList).setCells k 0 Vb.toList) m' 19 (fun j=>(YF num M.cells (.slice og M.out.length cap) st).getD j undef)∧Below wr.heap.size wr ((W.setCells m 0 arr.toList).setCells k 0 Vb.toList) ∧
   ∃ B,((W.setCells m 0 arr.toList).setCells k 0 Vb.toList).ownsRow B 2 1 (.slice og M.out.length cap) M.out.length (M.out.map (Value.int .i64))):=by
 have o1:∀ v∈arr.toList,v.oneCell'=true:=by rw[e1];exact aBr _ _ _ _ _ _
 have o2:∀ v∈Vb.toList,v.oneCell'=true:=by
  rw[e2];intro v hv;simp only[List.mem_cons,List.not_mem_nil,or_false]at hv;rcases hv with rfl|rfl<;>rfl
 have s1:arr.size=19:=by rw[←Array.length_toList,e1];rfl
 have s2:Vb.size=2:=by rw[←Array.length_toList,e2];rfl
 have hz:=hb.size;refine⟨WJ (by rw[s1];exact h1) o1,WJ (by rw[s2];exact aNo h2 hne.symm) o2,bW ⟨m,yG,cap5,rfl,hm,?_,?_,B0,?_⟩⟩
 ·have:=agY (w:=W) (b:=m) (vs:=arr.toList) (by rw[e1];exact h1);rw[e1]at this ⊢;exact QC this hne
 ·exact below_setCells hk Vb.toList 0 _ _ (below_setCells hm arr.toList 0 _ _ hb)
 ·exact(DY k Vb.toList 0 _).row ((DY m arr.toList 0 W).row hrow fun b hb e=>(hn b hb).1 e) fun b hb e=>(hn b hb).2 e
theorem aJt{told:Nat→Int}{time:Int}{l L:List HP}{i:Nat}{x:HP}{s:Sd}{M:dM}{num st:Int}(hx:L[i]?=some x)(hR:Qq (nth x.code) x.code.length told x.cells time=.inr (M,num,st))(hr:hrun told time l .zero=(L.take i++(hrun told time (L.drop i) s).1,(hrun told time (L.drop i) s).2))(hd:L.drop i=l.drop i) :
  (num=0→hrun told time l .zero=((L.set i { x with cells:=M.cells}).take (i+1)++(hrun told time ((L.set i { x with cells:=M.cells}).drop (i+1)) ⟨s.oW,s.num,s.steps+st,s.out++M.out⟩).1,(hrun told time ((L.set i { x with cells:=M.cells}).drop (i+1)) ⟨s.oW,s.num,s.steps+st,s.out++M.out⟩).2)) ∧
  (num≠0→hrun told time l .zero=(L.set i { x with cells:=M.cells},⟨x.id,num,s.steps+st,s.out++M.out⟩))∧(L.set i { x with cells:=M.cells}).drop (i+1)=l.drop (i+1):=by
 obtain⟨hi,he⟩:=List.getElem?_eq_some_iff.1 hx;have e1:L.drop i=x::L.drop (i+1):=by rw[List.drop_eq_getElem_cons hi,he]
 have e2:(L.set i { x with cells:=M.cells}).drop (i+1)=L.drop (i+1):=List.drop_set_of_lt bQ;have e3:(L.set i { x with cells:=M.cells}).take (i+1)=L.take i++[{ x with cells:=M.cells}]:=by
  rw[List.take_succ_eq_append_getElem amD,List.take_set_of_le (Nat.le_refl _),List.getElem_set_self]
 have e4:L.set i { x with cells:=M.cells}=L.take i++{ x with cells:=M.cells}::L.drop (i+1):=by rw[List.set_eq_take_append_cons_drop,dB hi]
 rw[e1,hrun,hR]at hr;simp only at hr;refine⟨fun h=>?_,fun h=>?_,?_⟩
 ·rw[dw (by simp[h])]at hr;rw[e2,e3,hr];simp
 ·rw[dB h]at hr;rw[hr,e4]
 ·rw[e2];have:=congrArg (List.drop 1) hd;simpa[List.drop_drop,Nat.add_comm]using this
theorem aJq{w:World}{m:Nat}{num st:Int}{f:Nat→Int}{v:Value}(IM:P.Img w m 19 (fun j=>(YF num f v st).getD j undef)):w.rangeAt m 1 (lV f):=fun j v hv=>by
 exact aAQ
theorem BD.aJr{w:World}{x:RP}(h:BD w x):w.there x.2.1 3 (lV x.1.cells).length:=fun j hj=>by
 refine⟨?_,h.free (3+j)⟩;rw[h.cell (3+j),aaP]at *;rw[List.getElem?_eq_getElem (by show 3+j<19;omega)];rfl
theorem aJs{W:World}{x:RP}(h:BD W x)(f:Nat→Int):BD (W.setCells x.2.1 3 (lV f)) (({ x.1 with cells:=f}:HP),x.2.1,x.2.2):=by
 refine⟨?_,(DY x.2.1 (lV f) 3 W).row h.code fun k hk e=>(kD h.code k hk).ne (e▸h.typed) dS rfl⟩;have:=anT (lV f) 3 W _ h.blk (by rw[aaP];simp[TF]);rw[this];rfl
end Go.Proofs.YtglilddlhibogaaGreatDoor.W
