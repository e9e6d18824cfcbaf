/- A part of the proof; each theorem states its conditions. -/
import Derived.Test.YtglilddlhibogaaGreatDoorHookRound
set_option linter.unusedSimpArgs false
set_option linter.unusedVariables false
set_option maxRecDepth 100000
set_option maxHeartbeats 100000000
namespace Go.Proofs.YtglilddlhibogaaGreatDoor.W
open Go.RowKit Go.Proofs.YtglilddlhibogaaGreatDoor.P
def VB:Value:=.agg #[aU 0,aU 0,.slice none 0 0,aU 0,aU 0,aU 0,aU 0,aU 0,aU 0,aU 0,aU 0,aU 0,aU 0,aU 0,aU 0,aU 0,aU 0,aU 0,aU 0]
theorem aD2(w:World):(zeroValue 106).run Tryz.prog w=.ok VB w:=dF
theorem aD3:∀ v∈VB.cells.toList,v.oneCell'=true:=by
 intro v hv;have:VB.cells.toList.all (·.oneCell')=true:=dF;exact List.all_eq_true.1 this v hv
theorem aD4{P:Program}(w:World)(t e ty:TypeId)(z:Value)(cs:List Value)(n:Nat)(ht:P.underlying t=some (.slice e))(hv:∀ w,(zeroValue e).run P w=.ok z w)(hz:(Builtin.zeroCells z.cells (n+1)).toList=cs)(h1:∀ v∈cs,v.oneCell'=true)(b o c:Nat)(hth:w.there b o cs.length) :
  (Builtin.clear_ #[t] ty #[.slice (some ⟨b,o,none⟩) (n+1) c]).run P w=.ok (.tuple #[]) (w.setCells b o cs):=by
 have hst:=run_storeCells_cells (P:=P) b o cs 0 w (fun j hj=>by simpa using (hth j hj).1) (fun j hj=>by simpa using (hth j hj).2) h1;simp only[Nat.add_zero]at hst;simp[Builtin.clear_,run_underlying ht,hv,hz,hst]
theorem avh{w:World}{g:Nat}{cur:Array Value}{t:TypeId}(hg:w.heap[g]?=some (.cells cur t (0,0))){o n:Nat}(h:o+n≤cur.size):w.there g o n:=fun j hj=>by
 refine⟨?_,by simp[World.frozen?,hg]⟩;rw[cell_of_row w g (o+j) cur t (0,0) hg,Array.getElem?_eq_getElem bQ];rfl
theorem aMx(g m cap i:Nat)(cur:Array Value)(hi:i≤m)(hc:m+1≤cap)(hs:cur.size=cap*19)(h1:∀ u∈cur.toList.take ((m+1)*19),u.oneCell'=true)(W:World)(hg:W.heap[g]?=some (.cells cur 106 (0,0)))(A:Addr)(cc:Nat)(hA:A=⟨g,(i+1)*19,none⟩∨i=m)(ty:TypeId) :
  (Builtin.append_ #[71,71] ty #[.slice (some ⟨g,0,none⟩) i cap,.slice (some A) (m-i) cc]).run Tryz.prog W=.ok (.slice (some ⟨g,0,none⟩) m cap)
   (W.setRow g (cur.toList.take (i*19)++(cur.toList.take ((m+1)*19)).drop ((i+1)*19)++cur.toList.drop (m*19)).toArray):=by
 obtain⟨i0,hi0,hq⟩:=Option.map_eq_some_iff.1 avK;have hz1:i0.size=19:=congrArg (·.2.1) hq;have hcl:cur.toList.length=cap*19:=aqn;have hnl:((cur.toList.take ((m+1)*19)).drop ((i+1)*19)).length=(m-i)*19:=by rw[List.length_drop,List.length_take,hcl,Nat.sub_mul];omega
 have hadd:∀ b k j,(⟨b,k,none⟩:Addr).add j=⟨b,k+j,none⟩:=fun b k j=>by unfold Addr.add;split<;>simp_all
 have hr:=asG W 71 ty 106 i0 Tryz.underlying71 hi0 g 0 i cap cur hg A (m-i) cc ((cur.toList.take ((m+1)*19)).drop ((i+1)*19)) (by rw[hz1];exact hnl) (fun j u hj=>by
  rcases hA with rfl|rfl
  ·rw[hadd]
   refine(cell_of_row W g _ cur _ (0,0) hg).trans ?_
   rw[List.getElem?_drop,List.getElem?_take]at hj
   split at hj
   ·simpa using hj
   ·cases hj
  ·have:=(List.getElem?_eq_some_iff.1 hj).1
   rw[hnl]at this;omega) (fun u hu=>h1 u (List.mem_of_mem_drop hu)) bQ (by rw[hnl,hz1,hs];rw[Nat.sub_mul];omega)
 rw[hr,hnl,hz1,show i+(m-i)=m by omega,Nat.zero_add,show i*19+(m-i)*19=m*19 by rw[Nat.sub_mul];omega]
theorem aD5{g m cap i:Nat}{cur:Array Value}{xs zs:List Value}{w W1:World}(hi:i≤m)(hc:m+1≤cap)(hm:cap≤maxLen)(hs:cur.size=cap*19)(hg:w.heap[g]?=some (.cells cur 106 (0,0)))(hx:cur.toList.take ((m+1)*19)=xs)
  (hW:w.drew.setRow g (cur.toList.take (i*19)++((cur.toList.take ((m+1)*19)).drop ((i+1)*19)++cur.toList.drop (m*19))).toArray=W1) (hz:zs.length=19) :
  (W1.setCells g (m*19) zs).ownsRow 0 106 19 (.slice (some ⟨g,0,none⟩) m cap) m (xs.take (i*19)++xs.drop ((i+1)*19))∧dQ (fun b=>b=g) w (W1.setCells g (m*19) zs):=by
 have hcl:cur.toList.length=cap*19:=aqn;have hxl:xs.length=(m+1)*19:=by rw[←hx,List.length_take,hcl];omega
 have hg1:W1.heap[g]?=some (.cells (cur.toList.take (i*19)++((cur.toList.take ((m+1)*19)).drop ((i+1)*19)++cur.toList.drop (m*19))).toArray 106 (0,0)):=by rw[←hW];exact setRow_heap w.drew g _ _ _ _ hg
 have hnl:(cur.toList.take (i*19)++((cur.toList.take ((m+1)*19)).drop ((i+1)*19)++cur.toList.drop (m*19))).length=cap*19:=by
  simp only[List.length_append,List.length_take,List.length_drop,hcl];omega
 have hkey:(cur.toList.take (i*19)++((cur.toList.take ((m+1)*19)).drop ((i+1)*19)++cur.toList.drop (m*19))).take (m*19)=xs.take (i*19)++xs.drop ((i+1)*19):=by
  rw[hx,←List.append_assoc,List.take_append_of_le_length aBs,List.take_of_length_le aBs];congr 1
  rw[←hx,List.take_take];congr 1;omega
 refine⟨⟨?_,.inr ⟨g,cap,_,rfl,Nat.zero_le _,anT zs (m*19) _ _ hg1 (by rw[List.size_toArray,hnl,hz];omega),by omega,hm,?_,?_⟩⟩,?_⟩
 ·simp only[List.length_append,List.length_take,List.length_drop,hxl];omega
 ·simp only[List.size_toArray,List.length_append,List.length_take,List.length_drop,hcl,hz];omega
 ·show List.take (m*19) (List.take (m*19) _++zs++_)=_;rw[List.append_assoc,List.take_append_of_le_length (by rw[List.length_take,hnl];omega),List.take_take,Nat.min_self];exact hkey
 ·refine dQ.trans (w':=W1) ?_ (DY g zs (m*19) W1);rw[←hW];exact⟨rfl,rfl,rfl,by simp[World.setRow],fun k hk ne=>setRow_other _ g k _ ne⟩
theorem aMm(g m cap i:Nat)(xs:List Value)(w:World)(hn:m<8)(hi:i≤m)(hrow:w.ownsRow 0 106 19 (.slice (some ⟨g,0,none⟩) (m+1) cap) (m+1) xs)(h1:∀ u∈xs,u.oneCell'=true) :
  Calls Tryz.prog 48 #[.slice (some ⟨g,0,none⟩) (m+1) cap,aU i,aU (i+1)] w fun e w'=>e=.returned (.slice (some ⟨g,0,none⟩) m cap) ∧
   w'.ownsRow 0 106 19 (.slice (some ⟨g,0,none⟩) m cap) m (xs.take (i*19)++xs.drop ((i+1)*19))∧dQ (fun b=>b=g) w w':=by
 have hgl:g<w.heap.size:=(hrow.lt g rfl).2;have hxl:=hrow.1;obtain⟨cur,hg,hc,hm,hs,hx⟩:∃ cur:Array Value,w.heap[g]?=some (.cells cur 106 (0,0))∧m+1≤cap∧cap≤maxLen∧cur.size=cap*19∧cur.toList.take ((m+1)*19)=xs:=by
  rcases hrow.2 with ⟨hv,_⟩|⟨g',cap',cur,hv,hb,hg,hc,hm,hs,hx⟩
  ·cases hv
  ·exact aAd
 have hm63:cap≤9223372036854775807:=by unfold maxLen at hm;omega
 have k0:(0:Int)≤(i:Int)+1:=bQ;have k1:(i:Int)+1≤m+1:=bQ;have k2:(i:Int)≤i+1:=bQ;have k3:((i:Int)==i+1)=false:=lW;have wV:=bW (aMx g m cap i cur hi hc hs (by rw[hx];exact h1));have HG:=bW hg;have HX:=bW hx;clear hrow hg hx;have hic:i≤cap:=bQ;have hcap1:(cap=i+1∧i=m)∨¬cap=i+1:=bQ;rcases hcap1 with ⟨rfl,rfl⟩|hcap1
 ·have HR2:=bW (fun W hg A cc ty=>wV.out W hg A cc (.inr rfl) ty);rw[Nat.sub_self]at HR2;go_enter Tryz.func48,Tryz.ntmps48;go_upto_region 5 with fail;go_region_law (first|(refine apa rfl (.tmp 22) (.tmp 25) 71 71 rfl (.slice (some ⟨g,0,none⟩) i (i+1)) (.slice (some ⟨g,0,none⟩) 0 0) rfl rfl (HR2.out w.drew HG.out ⟨g,0,none⟩ 0 _) ?_))
  generalize hW:World.setRow _ _ _=W1;have hW1:w.drew.setRow g (cur.toList.take (i*19)++((cur.toList.take ((i+1)*19)).drop ((i+1)*19)++cur.toList.drop (i*19))).toArray=W1:=by
   rw[←hW,show(cur.toList.take ((i+1)*19)).drop ((i+1)*19)=[]from List.drop_of_length_le auY,List.nil_append,List.take_append_drop]
  have hzl:VB.cells.toList.length=19:=dF;have ZI:=bW (aD5 (zs:=VB.cells.toList) (Nat.le_refl i) hc hm hs HG.out HX.out hW1 hzl);have hg1:W1.heap[g]?=some (.cells cur 106 (0,0)):=by rw[←hW];exact setRow_heap w.drew g _ _ _ _ HG.out
  have hcl:=aD4 W1 71 106 0 VB VB.cells.toList 0 Tryz.underlying71 aD2 dF aD3 g (i*19) 1 (avh hg1 (by rw[hs,hzl];omega));generalize VB.cells.toList=zs at hcl ZI hzl;clear hg1 hW hW1;go_wp2_with (simp only[hcl]);go_ret
  exact⟨rfl,ZI.out⟩
 ·have q1:(m:Int)≤m+1:=bQ;have q2:m≤cap:=bQ;have q3:¬cap=m:=bQ;go_enter Tryz.func48,Tryz.ntmps48;go_upto_region 5 with fail;go_region_law (first|(refine apa rfl (.tmp 22) (.tmp 25) 71 71 rfl (.slice (some ⟨g,0,none⟩) i cap) (.slice (some ⟨g,(i+1)*19,none⟩) (m-i) (cap-(i+1))) rfl rfl (wV.out w.drew HG.out ⟨g,(i+1)*19,none⟩ _ (.inl rfl) _) ?_))
  generalize hW:World.setRow _ _ _=W1;have hzl:VB.cells.toList.length=19:=dF;have ZI:=bW (aD5 (zs:=VB.cells.toList) hi hc hm hs HG.out HX.out hW hzl);have hg1:W1.heap[g]?=some (.cells (cur.toList.take (i*19)++((cur.toList.take ((m+1)*19)).drop ((i+1)*19)++cur.toList.drop (m*19))).toArray 106 (0,0)):=by rw[←hW];exact setRow_heap w.drew g _ _ _ _ HG.out
  have hsl:(cur.toList.take (i*19)++((cur.toList.take ((m+1)*19)).drop ((i+1)*19)++cur.toList.drop (m*19))).toArray.size=cap*19:=by
   simp only[List.size_toArray,List.length_append,List.length_take,List.length_drop,Array.length_toList,hs];omega
  have hcl:=aD4 W1 71 106 0 VB VB.cells.toList 0 Tryz.underlying71 aD2 dF aD3 g (m*19) (cap-m) (avh hg1 (by rw[hsl,hzl];omega));generalize VB.cells.toList=zs at hcl ZI hzl;clear hg1 hW hsl;go_wp2_with (simp only[hcl]);go_ret
  exact⟨rfl,ZI.out⟩
theorem aMi(l:List (HP × Value))(v:Value)(id:Int)(hl:l.length≤8)(b:Nat)(w:World)(hrow:w.ownsRow 0 106 19 v l.length (kV l))(hcode:∀ x∈l,∃ og n c,x.2=.slice og n c)(hb:w.cell? ⟨b,0,none⟩=some (aU id))(hf:∀ x∈l,x.1.id≠id) :
  Calls Tryz.prog 54 #[v,Value.func (.func 55) #[] #[.pointer (some ⟨b,0,none⟩)]] w fun e w'=>e=.returned (aU (-1))∧Below w.heap.size w w':=by
 obtain⟨og,cap,rfl⟩:=pI hrow;generalize hn:l.length=n at hl hrow ⊢;have uF:=bW hrow;have HC:=bW hcode;have HB:=bW hb;have hbl:=block_lt_of_cell hb;have HF:=bW hf;clear hrow hcode hb hf;go_enter Tryz.func54,Tryz.ntmps54;go_wp2_with fail;go_loopw [8] (fun x wr=>∃ a:Nat,x=aU a∧a≤n∧Below w.heap.size w wr) (fun x _=>n-(intOf x).toNat)
 case atStart=>exact⟨0,rfl,Nat.zero_le _,Below.refl _ _⟩
 case round =>
  obtain⟨a,rfl,han,hB⟩:=hrel;have BI:=bW hB;by_cases h:a<n
  ·have h1:(a:Int)<n:=bQ;obtain⟨g,rfl⟩:∃ g,og=some ⟨g,0,none⟩:=by
    exact auu
   have hgl:g<w.heap.size:=(uF.out.lt g rfl).2;obtain⟨x,hx⟩:∃ x,l[a]?=some x:=⟨_,List.getElem?_eq_getElem bQ⟩;refine aA1 ?_;intro hr HR HB1;clear hr hB;go_wp2_with (first|(with_reducible refine wpList_load_row iV 106 (.tmp 14) rfl g (a*19) iV (yu x) _ HR.out Tryz.underlying106 rfl (sizeCells x) ?_));refine(aDP x (HC.out x (List.mem_of_getElem? hx)) b id _ HB1.out).mono ?_;rintro e w1 ⟨rfl,hb1⟩;have HB2:=bW (BI.out.trans (hb1.mono BI.out.size));clear hb1;rw[decide_eq_false (HF.out x (List.mem_of_getElem? hx))];go_wp2_with fail;go_roundw
   case rel=>exact⟨a+1,by simp,by omega,HB2.out⟩
   case measure=>simp[intOf];omega
  ·obtain rfl:a=n:=bQ;go_wp2_with fail;refine bodyPost_ret (v:=aU (-1)) (by simp[results,Tryz.results54,go_sem]) rfl ⟨rfl,BI.out⟩
theorem avk{w:World}{c:HC}{v:Value}{pl:List (HP × Value)}(hc:uP w c v pl)(D o:Nat)(c0:w.cell? ⟨D,o,none⟩=some v)(id:Int)(hf:¬hfind c.l id<c.l.length) :
  Calls Tryz.prog 32 #[.pointer (some ⟨D,o,none⟩),aU id] w fun e w'=>e=.returned (aU (-1))∧Below w.heap.size w w':=by
 obtain⟨og,cap,hv⟩:=pI hc.row;have hDl:D<w.heap.size:=block_lt_of_cell c0;subst hv;have HC:=bW hc;have HF:=bW (apl hf);clear hc hf;go_enter Tryz.func32,Tryz.ntmps32;go_wp2_with fail;refine(aMi pl _ id HC.out.short w.heap.size _ (ED HC.out.row ((Below.refl _ _).alloc (Nat.le_refl _) _)) (fun x hx=>by obtain⟨a,b,h⟩:=pI (HC.out.code x hx);exact⟨a,_,b,h⟩) (cell_of_row _ w.heap.size 0 _ _ (0,0) (heap_alloc_new w _)) (fun x hx=>HF.out x.1 (by rw[←HC.out.l];exact List.mem_map_of_mem hx))).mono ?_;exact aDQ
theorem aMj:Tryz.prog.built 55 []=some (lV fun _=>0).toArray:=dF
theorem aLo{w:World}{c:HC}{v:Value}{pl:List (HP × Value)}(hc:uP w c v pl)(D o:Nat)(c0:w.cell? ⟨D,o,none⟩=some v)(id:Int)(hf:¬hfind c.l id<c.l.length) :
  Calls Tryz.prog 13 #[.pointer (some ⟨D,o,none⟩),aU id] w fun e w'=>e=.returned (.tuple #[.agg (lV fun _=>0).toArray,.iface 30 (aU 7)])∧Below w.heap.size w w':=by
 have hDl:D<w.heap.size:=block_lt_of_cell c0;have HC:=bW hc;clear hc;go_enter Tryz.func13,Tryz.ntmps13;go_wp2_with fail;refine apJ ?_;intro w1 hW hb1;have hth:w1.there w.heap.size 0 16:=hW▸afY rfl;have hz1:w.heap.size<w1.heap.size:=OC;have EI:=bW hth;refine(avk (HC.out.fG (dQ.of hb1 (M:=fun _=>False)) (fun _ _ h=>h) (fun _ _ h=>h)) D o ((hb1.cell (p:=⟨D,o,none⟩) hDl).trans c0) id hf).mono ?_;rintro e w2 ⟨rfl,hb⟩;have HB2:=bW (hb1.trans (hb.mono hb1.size));have aDW:=bW (ars EI.out hb hz1);clear hb hb1 hth hW;obtain⟨arr,harr⟩:∃ arr,(lV fun _=>0).toArray=arr:=⟨_,rfl⟩;have hbt:=aMj;have hst:=WJ (P:=Tryz.prog) (w:=w2) (b:=w.heap.size) (arr:=arr) (by rw[←harr];exact aDW.out) (by rw[←harr];exact fun v hv=>aqz (fun _=>0) v hv);rw[harr]at hbt;have hsz:arr.size=16:=by rw[←harr];rfl
 have EX:=bW harr;have HBT:=bW hbt;clear harr hbt;go_wp2_with (with_reducible refine wpList_build iC 55 _ iC #[] dY arr HBT.out ?_);refine bodyPost_ret (results_cell_tmp Tryz.results13 (p:=⟨w.heap.size,0,none⟩) (v:=.agg arr) (u:=.iface 30 (aU 7)) oZ oZ ?_) rfl ⟨by rw[EX.out],?_⟩
 ·rw[←EX.out];exact run_loadVar_mid _ w.heap.size 0 _ (lV fun _=>0) _ (World.rangeAt_setCells_same w2 w.heap.size 0 (lV fun _=>0) (show w2.there w.heap.size 0 16 from aDW.out)) Tryz.underlying55 rfl (anG _)
 ·exact aBt
theorem aMk{w W:World}{c:HC}{g m cap:Nat}{pl:List (HP × Value)}(hc:uP w c (.slice (some ⟨g,0,none⟩) (m+1) cap) pl)(hm:pl.length=m+1){i:Nat}(hi:i≤m)
  (hrow:W.ownsRow 0 106 19 (.slice (some ⟨g,0,none⟩) m cap) m ((kV pl).take (i*19)++(kV pl).drop ((i+1)*19))) (hf:dQ (fun b=>b=g) w W) :
  uP W { c with l:=c.l.eraseIdx i} (.slice (some ⟨g,0,none⟩) m cap) (pl.eraseIdx i):=by
 have hlen:(pl.eraseIdx i).length=m:=by rw[List.length_eraseIdx,dB bQ,hm];rfl
 have hrv:kV (pl.eraseIdx i)=(kV pl).take (i*19)++(kV pl).drop ((i+1)*19):=by
  unfold kV;rw[arp aa6,arq aa6,List.eraseIdx_eq_take_drop_succ,List.flatMap_append]
 have tg:=kD hc.row g rfl;refine⟨?_,by rw[hlen,hrv];exact hrow,fun x hx=>?_,?_,by rw[hlen];have:=hc.short;omega⟩
 ·rw[←hc.l,List.eraseIdx_eq_take_drop_succ,List.eraseIdx_eq_take_drop_succ,List.map_append,List.map_take,List.map_drop]
 ·exact hf.row (hc.code x (List.mem_of_mem_eraseIdx hx)) fun k hk e=>(kD (hc.code x (List.mem_of_mem_eraseIdx hx)) k hk).ne (e▸tg) dS rfl
 ·have hs:=hc.sorted;intro a b p q hab hp hq;simp only at hp hq;rw[List.getElem?_eraseIdx]at hp hq;split at hp
  ·split at hq
   ·exact hs a b p q hab hp hq
   ·exact hs a (b+1) p q bQ hp hq
  ·split at hq
   ·omega
   ·exact hs (a+1) (b+1) p q bQ hp hq
theorem aMl{w:World}{D:Nat}{d:HD}{vs qs:Nat→Value}{dO:Nat→List (HP × Value)}(h:lC w D d vs qs dO)(k:Nat)(hk:k<3)(id:Int) :
  Calls Tryz.prog 22 #[.pointer (some ⟨D,k*2,none⟩),aU id] w fun e w'=>(∃ er,e=.returned er∧rC w' er ((d.c k).detach id).2 (-1)) ∧
   ∃ vs' iP,lC w' D (d.detach k id) vs' qs iP∧dQ (kQ D vs qs) w w'∧∀ b,kQ D vs' qs b→kQ D vs qs b∨w.heap.size≤b:=by
 have hch:=h.chain k hk;obtain⟨og,cap,hv⟩:=pI hch.row;refine akg ?_;intro c0;have hD:=h.typed.lt;have hpl:dO k≠[]∨dO k=[]:=by by_cases e:dO k=[]<;>simp[e]
 by_cases hf:hfind (d.c k).l id<(d.c k).l.length
 ·have hlen:(dO k).length=(d.c k).l.length:=auT;obtain⟨m,hm⟩:∃ m,(dO k).length=m+1:=⟨(dO k).length-1,by omega⟩;have e1:(d.c k).detach id=({ d.c k with l:=(d.c k).l.eraseIdx (hfind (d.c k).l id)},0):=by unfold HC.detach;rw[dB hf]
  have e2:d.detach k id={ d with c:=upd d.c k { d.c k with l:=(d.c k).l.eraseIdx (hfind (d.c k).l id)}}:=by unfold HD.detach;rw[e1]
  rw[e1,e2];rw[hm]at hv;obtain⟨g,rfl⟩:∃ g,og=some ⟨g,0,none⟩:=by
   have hr:=hch.row;rw[hv]at hr;exact aBM
  have FI:=fun W (hb:Below w.heap.size w W)=>aqK (hch.fG (M:=fun _=>False) (dQ.of hb) (fun _ _ h=>h) (fun _ _ h=>h)) D (k*2) ((hb.cell (p:=⟨D,k*2,none⟩) hD).trans c0) id (by rw[hlen];exact hf);have hs8:=hch.short;rw[hv]at c0 hch;have him:hfind (d.c k).l id≤m:=bQ;have ZI:=bW (fun W W' (hb:Below w.heap.size w W) (hrow:W'.ownsRow 0 106 19 (.slice (some ⟨g,0,none⟩) m cap) m ((kV (dO k)).take (hfind (d.c k).l id*19)++(kV (dO k)).drop ((hfind (d.c k).l id+1)*19))) (hfr:dQ (fun b=>b=g) W W') =>
   h.aCM hk (((dQ.of hb (M:=fun b=>(vs k).ownBlock=some b))).trans (hfr.mono fun b _ e=>by rw[hv,e];rfl)) (aMk (hch.fG (M:=fun _=>False) (dQ.of hb) (fun _ _ h=>h) (fun _ _ h=>h)) hm him hrow hfr) rfl (v':=.slice (some ⟨g,0,none⟩) m cap) (fun b hb=>.inl (by rw[hv];exact hb)))
  have aDX:=bW (fun W (hb:Below w.heap.size w W)=>aMm g m cap (hfind (d.c k).l id) (kV (dO k)) W bQ him (by have:=ED hch.row hb;rwa [hm]at this) (aCN hch.code));have hgD:g≠D:=(kD hch.row g rfl).ne h.typed dS;have aMn:=bW h.img;have HFI:=bW FI;obtain⟨i,hi⟩:∃ i,hfind (d.c k).l id=i:=⟨_,rfl⟩;rw[hi]at ZI aDX him ⊢;have HI:=bW hi;clear FI h hch hi e1 e2 hlen hpl hv;go_enter Tryz.func22,Tryz.ntmps22;go_wp2_with fail;refine(HFI.out _ (Below.refl _ _)).mono ?_;rintro e w1 ⟨rfl,hb⟩;rw[HI.out];have c1:=(hb.cell (p:=⟨D,k*2,none⟩) hD).trans c0;have hD1:D<w1.heap.size:=Nat.lt_of_lt_of_le hD hb.size;have i0:¬(i:Int)<0:=bQ;have HB:=bW hb;clear hb;go_wp2_with fail;refine(aDX.out _ HB.out).mono ?_;rintro e w2 ⟨rfl,hrow2,hf2⟩;have I2:=hf2.img ((aMn.out).later HB.out hD) bQ (fun e=>hgD e.symm);have g2:=I2.free (k*2) bQ;have c2:=I2.cell (k*2) bQ;have HP2:=bW (ZI.out w1 w2 HB.out hrow2 hf2);clear hrow2 hf2 I2;go_wp2_with fail;go_ret
  exact⟨⟨_,rfl,.inl ⟨rfl,rfl,rfl⟩⟩,_,_,HP2.out⟩
 ·have e1:(d.c k).detach id=(d.c k,7):=by unfold HC.detach;rw[dw hf]
  have e2:d.detach k id=d:=by
   unfold HD.detach;rw[e1];have:upd d.c k (d.c k)=d.c:=aqL d.c k;rw[this]
  rw[e1,e2];have FO:=avk hch D (k*2) c0 id hf;have HFO:=bW FO;have H:=bW h;clear FO hch c0;go_enter Tryz.func22,Tryz.ntmps22;go_wp2_with fail;refine HFO.out.mono ?_;rintro e w1 ⟨rfl,hb⟩;have HB:=bW hb;clear hb;go_wp2_with fail;go_ret
  exact⟨⟨_,rfl,.inr (.inl ⟨show(7:Int)≠0 by decide,rfl,rfl⟩)⟩,vs,dO,H.out.later HB.out,dQ.of HB.out,fun b hb=>.inl hb⟩
theorem aKc{w:World}{g n cap size:Nat}{e:TypeId}{xs:List Value}(h:w.ownsRow 0 e size (.slice (some ⟨g,0,none⟩) n cap) n xs)(vs:List Value){o:Nat}(ho:o+vs.length≤xs.length) :
  (w.setCells g o vs).ownsRow 0 e size (.slice (some ⟨g,0,none⟩) n cap) n (xs.take o++vs++xs.drop (o+vs.length)):=by
 have hxl:=h.1;obtain⟨cur,hg,hc,hm,hs,hx⟩:∃ cur:Array Value,w.heap[g]?=some (.cells cur e (0,0))∧n≤cap∧cap≤maxLen∧cur.size=cap*size∧cur.toList.take (n*size)=xs:=by
  exact aBq
 have hcl:cur.toList.length=cap*size:=aqn;have hle:n*size≤cap*size:=Nat.mul_le_mul_right size hc;have hA:(cur.toList.take o).length=o:=atT;have hB:(cur.toList.take o++vs).length=o+vs.length:=by rw[List.length_append,hA]
 refine⟨?_,.inr ⟨g,cap,_,rfl,Nat.zero_le _,anT vs o _ _ hg (by rw[hs];omega),hc,hm,?_,?_⟩⟩
 ·simp only[List.length_append,List.length_take,List.length_drop];omega
 ·simp only[List.size_toArray,List.length_append,List.length_take,List.length_drop,hcl];omega
 ·show List.take (n*size) (cur.toList.take o++vs++cur.toList.drop (o+vs.length))=_;rw[List.take_append,hB,List.take_of_length_le (by rw[hB];omega)];congr 1
  ·congr 1
   rw[←hx,List.take_take];congr 1;omega
  ·rw[←hx,List.drop_take]
theorem aKd{w:World}{g n cap size:Nat}{e:TypeId}{xs:List Value}(h:w.ownsRow 0 e size (.slice (some ⟨g,0,none⟩) n cap) n xs){o m:Nat}(ho:o+m≤xs.length):w.there g o m:=by
 have hxl:=h.1;obtain⟨cur,hg,hc,hs⟩:∃ cur:Array Value,w.heap[g]?=some (.cells cur e (0,0))∧n≤cap∧cur.size=cap*size:=by
  exact aAj
 have hle:n*size≤cap*size:=Nat.mul_le_mul_right size hc;exact avh hg bQ
theorem aKe{w:World}{g n cap:Nat}{pl:List (HP × Value)}(h:w.ownsRow 0 106 19 (.slice (some ⟨g,0,none⟩) n cap) n (kV pl)){i:Nat}{x:HP × Value}(hx:pl[i]?=some x) :
  w.cell? ⟨g,i*19+2,none⟩=some x.2∧w.frozen? ⟨g,i*19+2,none⟩=false∧g<w.heap.size:=by
 have hil:i<pl.length:=(List.getElem?_eq_some_iff.1 hx).1;refine⟨adh h hx 2 x.2 rfl,?_,(h.lt g rfl).2⟩;exact((aKd h (o:=i*19+2) (m:=1) (by rw[adl];omega)) 0 bQ).2
theorem azD{l:List HP}{i:Nat}{x:HP}(h:l[i]?=some x)(f:HP→HP):l.modify i f=l.set i (f x):=by
 apply List.ext_getElem?;intro j;rw[List.getElem?_modify,List.getElem?_set];by_cases e:i=j
 ·subst e;obtain⟨h1,h2⟩:=List.getElem?_eq_some_iff.1 h;simp[h1,h2]
 ·simp[e]
theorem aKf{w:World}{c:HC}{g n cap:Nat}{pl:List (HP × Value)}(hc:uP w c (.slice (some ⟨g,0,none⟩) n cap) pl)(hn:pl.length=n){i:Nat}{x:HP × Value}(hx:pl[i]?=some x){L:List Step}{u:Value}{B:Nat}(hu:w.ownsRow B 110 6 u L.length (rowOf L)) :
  uP (w.setCell ⟨g,i*19+2,none⟩ u) { c with l:=c.l.modify i fun p=>{ p with code:=L}} (.slice (some ⟨g,0,none⟩) n cap) (pl.set i ({ x.1 with code:=L},u)):=by
 have hil:i<pl.length:=(List.getElem?_eq_some_iff.1 hx).1;have hcx:c.l[i]?=some x.1:=by rw[←hc.l,List.getElem?_map,hx];rfl
 have hf:=D5 w g (i*19+2) u;have tg:=kD hc.row g rfl;have hrl:=adl pl;have hset:=aqJ (y:=(({ x.1 with code:=L}:HP),u)) hx;have hself:kV pl=(kV pl).take (i*19)++yu x++(kV pl).drop ((i+1)*19):=by
  have es:pl.set i x=pl:=by
   apply List.ext_getElem?;intro j;rw[List.getElem?_set];by_cases e:i=j
   ·subst e;rw[hx];simp[hil]
   ·simp[e]
  have:=aqJ (y:=x) hx;rwa [es]at this
 have hA:((kV pl).take (i*19)).length=i*19:=by rw[List.length_take,hrl];omega
 have hkey:kV (pl.set i (({ x.1 with code:=L}:HP),u))=(kV pl).take (i*19+2)++[u]++(kV pl).drop (i*19+2+1):=by
  have h1:(kV pl).take (i*19+2)=(kV pl).take (i*19)++[aU x.1.id,aU x.1.rank]:=by
   conv=>lhs;rw[hself]
   rw[List.append_assoc,List.take_append,hA,List.take_of_length_le (by rw[hA];omega),show i*19+2-i*19=2 by omega];rfl
  have h2:(kV pl).drop (i*19+2+1)=lV x.1.cells++(kV pl).drop ((i+1)*19):=by
   conv=>lhs;rw[hself]
   rw[List.append_assoc,List.drop_append,hA,List.drop_of_length_le (by rw[hA];omega),show i*19+2+1-i*19=3 by omega];rfl
  rw[hset,h1,h2];simp[yu,TF,lV]
 have hrow:=hc.row;rw[hn]at hrow;have hput:=aKc hrow [u] (o:=i*19+2) (by rw[hrl];simp;omega);have hlen:(pl.set i (({ x.1 with code:=L}:HP),u)).length=n:=by rw[List.length_set,hn]
 refine⟨?_,?_,fun y hy=>?_,?_,by rw[List.length_set];exact hc.short⟩
 ·rw[List.map_set,hc.l,azD hcx]
 ·rw[hlen,hkey];exact hput
 ·rcases List.mem_or_eq_of_mem_set hy with hy|rfl
  ·exact hf.row (hc.code y hy) fun k hk e=>(kD (hc.code y hy) k hk).ne (e▸tg) dS rfl
  ·exact amO (hf.row hu fun k hk e=>(kD hu k hk).ne (e▸tg) dS rfl) (Nat.zero_le _)
 ·refine aCB ?_ hc.sorted;apply List.ext_getElem?;intro j;simp only[List.getElem?_map,List.getElem?_modify];cases c.l[j]? with
  |none=>rfl
  |some p=>by_cases e:i=j<;>simp[e]
theorem aKg{w:World}{D:Nat}{d:HD}{vs qs:Nat→Value}{dO:Nat→List (HP × Value)}(h:lC w D d vs qs dO)(k:Nat)(hk:k<3)(id:Int)(oa:Option Addr)(cap:Nat)(L:List Step)(hcap:L.length≤cap)(hs:xY w oa (nth L) L.length)(hno:∀ a,oa=some a→¬kQ D vs qs a.block)(hin:∀ j,j<L.length→In64 (nth L j).off∧In64 (nth L j).num)(hg:vY w)
  (hf:hfind (d.c k).l id<(d.c k).l.length) (hv:(verify (nth L) L.length).1.1=0) :
  Calls Tryz.prog 24 #[.pointer (some ⟨D,k*2,none⟩),aU id,.slice oa L.length cap] w fun e w'=>e=.returned .nilIface ∧
   ∃ iP,lC w' D (d.replace k id L) vs qs iP∧dQ (kQ D vs qs) w w':=by
 have hch:=h.chain k hk;obtain⟨og,cc,hvk⟩:=pI hch.row;refine akg ?_;intro c0;have hlen:(dO k).length=(d.c k).l.length:=auT;have e2:d.replace k id L={ d with c:=upd d.c k { d.c k with l:=(d.c k).l.modify (hfind (d.c k).l id) fun p=>{ p with code:=L}}}:=by unfold HD.replace HC.replace;rw[dB hf,dw ac2]
 rw[e2];have FI:=fun W (hb:Below w.heap.size w W)=>aqK (hch.fG (M:=fun _=>False) (dQ.of hb) (fun _ _ h=>h) (fun _ _ h=>h)) D (k*2) ((hb.cell (p:=⟨D,k*2,none⟩) h.typed.lt).trans c0) id (by rw[hlen];exact hf);refine auy ?_;intro C1;obtain⟨hl1,hl2⟩:=aeK hv;generalize verify (nth L) L.length=X at C1 hv;obtain⟨⟨er,p⟩,⟨lo,hi⟩⟩:=X;obtain rfl:er=0:=hv;obtain⟨a,rfl,hcs⟩:=hs bQ;obtain⟨n,hn⟩:∃ n,(dO k).length=n:=⟨_,rfl⟩;rw[hn]at hvk;obtain⟨i,hi'⟩:∃ i,hfind (d.c k).l id=i:=⟨_,rfl⟩;rw[hi']at hf FI ⊢;obtain⟨x,hx⟩:∃ x,(dO k)[i]?=some x:=⟨_,List.getElem?_eq_getElem bQ⟩;obtain⟨g,rfl⟩:∃ g,og=some ⟨g,0,none⟩:=by
  have hr:=hch.row;rw[hvk]at hr;exact aBM
 have hin':(i:Int)<n:=bQ;have i0:¬(i:Int)<0:=bQ;have hpost:∀ (W:World) (v5:Value) (B:Nat),Below w.heap.size w W→W.ownsRow B 110 6 v5 L.length (rowOf L)→∃ iP,lC (W.setCell ⟨g,i*19+2,none⟩ v5) D { d with c:=upd d.c k { d.c k with l:=(d.c k).l.modify i fun p=>{ p with code:=L}}} vs qs iP∧dQ (kQ D vs qs) w (W.setCell ⟨g,i*19+2,none⟩ v5):=by
  intro W v5 B hb hu;have hcW:uP W (d.c k) (.slice (some ⟨g,0,none⟩) n cc) (dO k):=by rw[←hvk];exact hch.fG (M:=fun _=>False) (dQ.of hb) (fun _ _ h=>h) (fun _ _ h=>h)
  have hfr:dQ (fun b=>(vs k).ownBlock=some b) w (W.setCell ⟨g,i*19+2,none⟩ v5):=((dQ.of hb (M:=fun b=>(vs k).ownBlock=some b))).trans ((D5 W g (i*19+2) v5).mono fun b _ e=>by rw[hvk,e];rfl);exact⟨_,h.ran hk hfr (c':={ d.c k with l:=(d.c k).l.modify i fun p=>{ p with code:=L}}) (by rw[hvk];exact aKf hcW hn hx hu) rfl,hfr.mono fun b _ e=>.inr ⟨k,hk,.inl e⟩⟩
 have ZI:=bW hpost;have HGR:=bW (fun W (hb:Below w.heap.size w W)=>(show W.ownsRow 0 106 19 (.slice (some ⟨g,0,none⟩) n cc) n (kV (dO k))from by have:=ED hch.row hb;rwa [hn,hvk]at this));have HCS:=bW (fun W (hb:Below w.heap.size w W)=>hcs.later hb);have HI:=bW hi';have HFI:=bW FI;have uS:=bW C1;have HX:=bW hx;have hD:=h.typed.lt;rw[hvk]at c0;clear FI C1 hpost h hs hin hg hno hch hvk hn hx hcs e2 hi' hlen;go_enter Tryz.func24,Tryz.ntmps24;go_wp2_with fail;refine(HFI.out _ (Below.refl _ _)).mono ?_;rintro e w1 ⟨rfl,hb⟩;have HB1:=bW hb;clear hb;go_wp2_with fail;refine(uS.out _ HB1.out).mono ?_;rintro e w2 ⟨v,rfl,he,hb⟩;obtain rfl:=avj he;have HB2:=bW (HB1.out.trans (hb.mono HB1.out.size));clear he hb;simp only;go_upto_region 7 with fail;generalize hW:World.alloc w2 _=w3;have hb3:Below w.heap.size w w3:=hW▸(HB2.out.alloc HB2.out.size _);have c03:=(hb3.cell (p:=⟨D,k*2,none⟩) hD).trans c0;have hD3:D<w3.heap.size:=Nat.lt_of_lt_of_le hD hb3.size;have HB3:=bW hb3;have aKh:=bW (HCS.out w3 hb3);clear hW hb3 c0;go_region_with (first
  |(go_at_call 47;refine(aCC a L.length cap (nth L) hl2 _ ?_).mono ?_;(exact aKh.out);rintro e w5 ⟨v5,rfl,vZ,hb5⟩;obtain⟨yG,cap5,rfl⟩:=pI vZ;have yj:=bW vZ;have yg:=bW (HB3.out.trans ((show Below w3.heap.size w3 w5 from⟨hb5.os,hb5.tape,hb5.output,hb5.size,hb5.block⟩).mono HB3.out.size));have c05:=((show Below w3.heap.size w3 w5 from⟨hb5.os,hb5.tape,hb5.output,hb5.size,hb5.block⟩).cell (p:=⟨D,k*2,none⟩) hD3).trans c03;obtain⟨q5,f5,z5⟩:=aKe (HGR.out w5 yg.out) HX.out;clear vZ hb5))
 all_goals
  go_wp2_with fail;go_ret
  refine⟨rfl,?_⟩;have hr:=yj.out;rw[apz]at hr;exact ZI.out w5 _ _ yg.out hr
theorem aKi{w:World}{D:Nat}{d:HD}{vs qs:Nat→Value}{dO:Nat→List (HP × Value)}(h:lC w D d vs qs dO)(k:Nat)(hk:k<3)(id:Int)(u:Value)(hf:¬hfind (d.c k).l id<(d.c k).l.length) :
  Calls Tryz.prog 24 #[.pointer (some ⟨D,k*2,none⟩),aU id,u] w fun e w'=>e=.returned (.iface 30 (aU 7))∧Below w.heap.size w w':=by
 refine akg ?_;intro c0;have HFO:=bW (avk (h.chain k hk) D (k*2) c0 id hf);clear h c0;go_enter Tryz.func24,Tryz.ntmps24;go_wp2_with fail;refine HFO.out.mono ?_;rintro e w1 ⟨rfl,hb⟩;have HB:=bW hb;clear hb;go_wp2_with fail;go_ret
 exact⟨rfl,HB.out⟩
theorem aKj{w:World}{D:Nat}{d:HD}{vs qs:Nat→Value}{dO:Nat→List (HP × Value)}(h:lC w D d vs qs dO)(k:Nat)(hk:k<3)(id:Int)(oa:Option Addr)(cap:Nat)(L:List Step)(hcap:L.length≤cap)(hs:xY w oa (nth L) L.length)(hin:∀ j,j<L.length→In64 (nth L j).off∧In64 (nth L j).num)(hg:vY w)
  (hf:hfind (d.c k).l id<(d.c k).l.length) (hv:(verify (nth L) L.length).1.1≠0) :
  Calls Tryz.prog 24 #[.pointer (some ⟨D,k*2,none⟩),aU id,.slice oa L.length cap] w fun e w'=>(∃ er,e=.returned er∧rC w' er (verify (nth L) L.length).1.1 (verify (nth L) L.length).1.2)∧Below w.heap.size w w':=by
 have hch:=h.chain k hk;refine akg ?_;intro c0;have hlen:(dO k).length=(d.c k).l.length:=auT;have HFI:=bW (aqK hch D (k*2) c0 id (by rw[hlen];exact hf));refine auy ?_;intro C1;generalize verify (nth L) L.length=X at C1 hv ⊢;obtain⟨⟨er,q⟩,⟨lo,hi⟩⟩:=X;have uS:=bW C1;have HV:=bW hv;have i0:¬((hfind (d.c k).l id:Nat):Int)<0:=bQ;generalize hfind (d.c k).l id=i at HFI i0;clear C1 hs hin hg hv h hch hf c0 hlen;go_enter Tryz.func24,Tryz.ntmps24;go_wp2_with fail;refine HFI.out.mono ?_;rintro e w0 ⟨rfl,hb0⟩;have HB0:=bW hb0;clear hb0;go_wp2_with fail;refine(uS.out _ HB0.out).mono ?_;rintro e w1 ⟨v,rfl,he,hb⟩;obtain⟨et,ex,rfl⟩:=aCD he HV.out;have HE:=bW (he.later ((Below.refl w1.heap.size w1).alloc (Nat.le_refl _) (.cells #[aU lo,aU hi] 130)));have HB:=bW (HB0.out.trans (hb.mono HB0.out.size));clear he hb;simp only;go_wp2_with fail;go_ret
 exact⟨⟨_,rfl,HE.out⟩,HB.out.alloc HB.out.size _⟩
theorem aKk{w:World}{D:Nat}{d:HD}{vs qs:Nat→Value}{dO:Nat→List (HP × Value)}(h:lC w D d vs qs dO)(k:Nat)(hk:k<3)(id:Int)(oa:Option Addr)(cap:Nat)(L:List Step)(hcap:L.length≤cap)(hs:xY w oa (nth L) L.length)(hno:0<L.length→∀ a,oa=some a→¬kQ D vs qs a.block)(hin:∀ j,j<L.length→In64 (nth L j).off∧In64 (nth L j).num)(hg:vY w) :
  Calls Tryz.prog 24 #[.pointer (some ⟨D,k*2,none⟩),aU id,.slice oa L.length cap] w fun e w'=>(∃ er,e=.returned er∧rC w' er ((d.c k).replace id L).2.1 ((d.c k).replace id L).2.2) ∧
   ∃ iP,lC w' D (d.replace k id L) vs qs iP∧dQ (kQ D vs qs) w w':=by
 have same:∀ x:HC × (Int × Int),x.1=d.c k→(d.c k).replace id L=x→d.replace k id L=d:=fun x e1 e2=>by
  unfold HD.replace;rw[e2,e1];have:upd d.c k (d.c k)=d.c:=aqL d.c k;rw[this]
 by_cases hf:hfind (d.c k).l id<(d.c k).l.length
 ·by_cases hv:(verify (nth L) L.length).1.1=0
  ·refine(aKg h k hk id oa cap L hcap hs (hno (by have:=aeK hv;omega)) hin hg hf hv).mono fun e w' ⟨he,hp⟩=>⟨⟨_,he,?_⟩,hp⟩;unfold HC.replace;rw[dB hf,dw ac2];exact .inl ⟨rfl,rfl,rfl⟩
  ·have e:(d.c k).replace id L=(d.c k,(verify (nth L) L.length).1):=by unfold HC.replace;rw[dB hf,dB hv]
   rw[same _ rfl e,e];exact(aKj h k hk id oa cap L hcap hs hin hg hf hv).mono fun e w' ⟨⟨er,he,h1⟩,hb⟩=>⟨⟨er,he,h1⟩,dO,h.later hb,dQ.of hb⟩
 ·have e:(d.c k).replace id L=(d.c k,(7,-1)):=by unfold HC.replace;rw[dw hf]
  rw[same _ rfl e,e];exact(aKi h k hk id _ hf).mono fun e w' ⟨he,hb⟩=>⟨⟨_,he,.inr (.inl ⟨show(7:Int)≠0 by decide,rfl,rfl⟩)⟩,dO,h.later hb,dQ.of hb⟩
theorem aKl{w:World}{c:HC}{v:Value}{pl:List (HP × Value)}(hc:uP w c v pl)(D o:Nat)(c0:w.cell? ⟨D,o,none⟩=some v) :
  Calls Tryz.prog 12 #[.pointer (some ⟨D,o,none⟩)] w fun e w'=>∃ y,e=.returned y∧w'.ownsRow w.heap.size 3 1 y c.l.length (c.l.map fun p=>aU p.id)∧Below w.heap.size w w':=by
 obtain⟨og,cap,hv⟩:=pI hc.row;have hDl:D<w.heap.size:=block_lt_of_cell c0;subst hv;have hl8:=hc.short;obtain⟨n,hn⟩:∃ n,pl.length=n:=⟨_,rfl⟩;have hcl:c.l.length=n:=by rw[←hc.l,List.length_map,hn]
 rw[hn]at c0 hl8 hc;have HC:=bW hc;have HN:=bW hn;have U5:=bW hcl;obtain⟨i0,hi0,hz0,hz1,hz2'⟩:=info_parts (show((Tryz.prog).info? 3).map (fun i=>(i.zero,i.size,i.bytes))=some (some (aU 0),1,8)by kernel_rfl);rw[hcl];clear hc hn hcl;go_enter Tryz.func12,Tryz.ntmps12;go_wp2_with fail;go_loopw [11,3] (fun x y wr=>∃ k:Nat,k≤n∧x=aU k∧wr.ownsRow w.heap.size 3 1 y k ((c.l.take k).map fun p=>aU p.id)∧Below w.heap.size w wr) (fun x _ _=>n-(intOf x).toNat)
 case atStart=>exact⟨0,Nat.zero_le _,rfl,World.ownsRow_nil _ _ _ _,Below.refl _ _⟩
 case round =>
  obtain⟨k,hk,rfl,hrow,hB⟩:=hrel;obtain⟨oy,cy,rfl⟩:=pI hrow;have uF:=bW hrow;have HB:=bW hB;have Gt:=hB.size;clear hrow hB;by_cases h:k<n
  ·have h1:(k:Int)<n:=bQ;obtain⟨g,rfl⟩:∃ g,og=some ⟨g,0,none⟩:=by
    rcases HC.out.row.2 with ⟨h0,h1⟩|⟨g,cap',cur,h0,_⟩
    ·have:=HN.out;omega
    ·exact aj9
   obtain⟨x,hx⟩:∃ x,pl[k]?=some x:=⟨_,List.getElem?_eq_getElem ac3⟩;have hcx:c.l[k]?=some x.1:=by rw[←HC.out.l,List.getElem?_map,hx];rfl
   have hr0:=HC.out.row;rw[HN.out]at hr0;have hr:=adh (ED hr0 HB.out) hx;have HR:=bW hr;have hgl:g<wr.heap.size:=Nat.lt_of_lt_of_le (hr0.lt g rfl).2 HB.out.size;obtain⟨arr,harr⟩:∃ arr,(yu x).toArray=arr:=⟨_,rfl⟩;have HTK:=bW (show(c.l.take (k+1)).map (fun p:HP=>aU p.id)=(c.l.take k).map (fun p:HP=>aU p.id)++[aU x.1.id]by rw[List.take_add_one,hcx,List.map_append];rfl);clear hr hr0 hcx;have hsz:arr.size=19:=by rw[←harr];rfl
   have hone:∀ u∈arr.toList,u.oneCell'=true:=by rw[←harr];exact fun u hu=>avl (avm (HC.out.code x (List.mem_of_getElem? hx))) u hu
   have hst:=WJ (P:=Tryz.prog) (w:=wr.alloc (.cells #[aU 0,aU 0,.slice none 0 0,aU 0,aU 0,aU 0,aU 0,aU 0,aU 0,aU 0,aU 0,aU 0,aU 0,aU 0,aU 0,aU 0,aU 0,aU 0,aU 0] 106)) (b:=wr.heap.size) (arr:=arr) aql hone;have hwz:(wr.alloc (.cells #[aU 0,aU 0,.slice none 0 0,aU 0,aU 0,aU 0,aU 0,aU 0,aU 0,aU 0,aU 0,aU 0,aU 0,aU 0,aU 0,aU 0,aU 0,aU 0,aU 0] 106)).there wr.heap.size 0 19:=afY rfl;have hbw:Below wr.heap.size wr ((wr.alloc (.cells #[aU 0,aU 0,.slice none 0 0,aU 0,aU 0,aU 0,aU 0,aU 0,aU 0,aU 0,aU 0,aU 0,aU 0,aU 0,aU 0,aU 0,aU 0,aU 0,aU 0] 106)).setCells wr.heap.size 0 arr.toList):=((Below.refl _ _).alloc (Nat.le_refl _) _).trans ((DY wr.heap.size arr.toList 0 _).below dY (fun b e=>by omega));have c5:((wr.alloc (.cells #[aU 0,aU 0,.slice none 0 0,aU 0,aU 0,aU 0,aU 0,aU 0,aU 0,aU 0,aU 0,aU 0,aU 0,aU 0,aU 0,aU 0,aU 0,aU 0,aU 0] 106)).setCells wr.heap.size 0 arr.toList).cell? ⟨wr.heap.size,0,none⟩=some (aU x.1.id):=by
    rw[←harr];exact World.rangeAt_setCells_same (wr.alloc (.cells #[aU 0,aU 0,.slice none 0 0,aU 0,aU 0,aU 0,aU 0,aU 0,aU 0,aU 0,aU 0,aU 0,aU 0,aU 0,aU 0,aU 0,aU 0,aU 0,aU 0] 106)) wr.heap.size 0 (yu x) hwz 0 _ rfl
   have EX:=bW harr;clear harr hone hwz hx;go_upto_region 5 with (first|(with_reducible refine wpList_load_row iV 106 (.tmp 13) rfl g (k*19) iV (yu x) _ HR.out Tryz.underlying106 rfl (sizeCells x) ?_;rw[EX.out]))
   clear hst;generalize hW:World.setCells _ _ _ _=W2 at hbw c5 ⊢;have HB2:=bW (HB.out.trans (hbw.mono Gt));have aCE:=bW (ED uF.out hbw);have hz2:w.heap.size≤W2.heap.size:=Nat.le_trans Gt hbw.size;clear hW hbw;go_wp2_with (at_builtin;refine wpList_append_lies _ iC (.tmp 15) (.tmp 18) 48 iC w.heap.size 3 i0 _ 1 8 Tryz.underlying48 hi0 hz0 hz1 hz2' rfl bQ (.slice oy k cy) k ((c.l.take k).map fun p=>aU p.id) iC (aCE.out.alloc _) ⟨W2.heap.size,0,none⟩ 1 1 [aU x.1.id] iC iC (World.news_of_block (cs:=#[aU x.1.id]) (t:=3) (fr:=(0,0)) (heap_alloc_new W2 _)) aaK bQ JF bQ eU (W2.heap.size+1) dY ?_;intro g7 JH w7 Tt Zg _ _);go_roundw
   case rel =>
    go_light;refine⟨k+1,by omega,by go_num,?_,?_⟩
    ·rw[HTK.out];exact Tt
    ·exact Below.grown (HB2.out.alloc hz2 _) Zg eU (fun b hb=>(aCE.out.lt b hb).1)
   case measure=>simp[intOf];omega
  ·obtain rfl:k=n:=bQ;have hfin:=uF.out;rw[show c.l.take k=c.l from List.take_of_length_le (by rw[U5.out];omega)]at hfin;have KG:=bW hfin;clear hfin;go_wp2_with fail;go_ret
   exact⟨_,rfl,KG.out,HB.out⟩
section
variable{w:World}{C:Nat}{c:HC}{v:Value}{pl:List RP}
theorem nM.cell0(h:nM w C c v pl):w.cell? ⟨C,0,none⟩=some v:=(cell_of_row w C 0 _ _ (0,0) h.blk).trans rfl
theorem nM.cell1(h:nM w C c v pl):w.cell? ⟨C,1,none⟩=some (aU c.next):=(cell_of_row w C 1 _ _ (0,0) h.blk).trans rfl
theorem nM.free(h:nM w C c v pl)(j:Nat):w.frozen? ⟨C,j,none⟩=false:=by simp[World.frozen?,h.blk]
theorem BD.cell{x:RP}(h:BD w x)(j:Nat):w.cell? ⟨x.2.1,j,none⟩=(TF x.1.id x.1.rank x.2.2 x.1.cells)[j]?:=(cell_of_row w x.2.1 j _ _ (0,0) h.blk).trans dY
theorem BD.free{x:RP}(h:BD w x)(j:Nat):w.frozen? ⟨x.2.1,j,none⟩=false:=by simp[World.frozen?,h.blk]
theorem nM.form(h:nM w C c v pl):∃ og cap,v=.slice og pl.length cap∧(∀ (i:Nat) x,pl[i]?=some x→∃ g,og=some ⟨g,0,none⟩∧g<w.heap.size∧w.cell? ⟨g,i,none⟩=some (wR x)):=by
 have hr:=h.row;rcases h.row.2 with ⟨rfl,h0⟩|⟨g,cap,cur,rfl,_,hg,_⟩
 ·refine⟨none,0,by rw[h0],fun i x hx=>?_⟩;have:=(List.getElem?_eq_some_iff.1 hx).1;omega
 ·refine⟨_,cap,rfl,fun i x hx=>⟨g,rfl,(h.row.lt g rfl).2,?_⟩⟩;have h1:=hr.cells (g:=g) rfl i (wR x) af5;have hadd:∀ k,(⟨g,0,none⟩:Addr).add k=⟨g,k,none⟩:=fun k=>by unfold Addr.add;split<;>simp_all
  rwa [hadd]at h1
end
theorem aIs(may:Nat→Int)(w:World) :
  Calls Tryz.prog 7 #[.agg #[aU (may 0),aU (may 1),aU (may 2)]] w fun e w'=>∃ R Cs,e=.returned (.pointer (some ⟨R,0,none⟩)) ∧
   xX w' R (HD.zero may) Cs (fun _=>.slice none 0 0) (fun _=>.slice none 0 0) (fun _=>[])∧(∀ b,qo R Cs (fun _=>.slice none 0 0) (fun _=>[]) b→w.heap.size≤b)∧Below w.heap.size w w':=by
 go_enter Tryz.func7,Tryz.ntmps7;go_wp2_with fail;have hpost:∀ (o:Obj) (D:Array Value),D.toList=(List.range 13).map (EW (HD.zero may) (fun k=>w.heap.size+1+k) fun _=>.slice none 0 0) →
   xX (((((w.alloc o).alloc (.cells #[.slice none 0 0,aU 0] 52)).alloc (.cells #[.slice none 0 0,aU 0] 52)).alloc (.cells #[.slice none 0 0,aU 0] 52)).alloc (.cells D 46))
    (w.heap.size+1+1+1+1) (HD.zero may) (fun k=>w.heap.size+1+k) (fun _=>.slice none 0 0) (fun _=>.slice none 0 0) (fun _=>[]):=by
  intro o D hD;have hR:(((((w.alloc o).alloc (.cells #[.slice none 0 0,aU 0] 52)).alloc (.cells #[.slice none 0 0,aU 0] 52)).alloc (.cells #[.slice none 0 0,aU 0] 52)).alloc (.cells D 46)).heap[w.heap.size+1+1+1+1]?=some (.cells D 46 (0,0)):=by
   have:=heap_alloc_new ((((w.alloc o).alloc (.cells #[.slice none 0 0,aU 0] 52)).alloc (.cells #[.slice none 0 0,aU 0] 52)).alloc (.cells #[.slice none 0 0,aU 0] 52)) (.cells D 46);simpa only[World.size_alloc]using this
  have hCh:∀ W:World,(W.alloc (.cells #[.slice none 0 0,aU 0] 52)).heap[W.heap.size]?=some (.cells #[.slice none 0 0,aU 0] 52 (0,0)):=fun W=>heap_alloc_new W _;refine⟨Img.mk' hR hD,⟨_,hR⟩,fun k hk=>⟨rfl,?_,World.ownsRow_nil _ _ _ _,fun x hx=>(by cases hx),List.nodup_nil⟩,fun k hk=>DW.zero _,fun i j b hi hj ne ei ej=>?_,fun i j b hi hj ne e=>(by cases e)⟩
  ·have hk':k=0∨k=1∨k=2:=bQ;rcases hk' with rfl|rfl|rfl
   ·exact(Below.heap_alloc _ _ _ akh).trans ((Below.heap_alloc _ _ _ akh).trans ((Below.heap_alloc _ _ _ akh).trans (by have:=hCh (w.alloc o);rwa [World.size_alloc]at this)))
   ·exact(Below.heap_alloc _ _ _ akh).trans ((Below.heap_alloc _ _ _ akh).trans (by have:=hCh ((w.alloc o).alloc (.cells #[.slice none 0 0,aU 0] 52));simp only[World.size_alloc]at this;exact this))
   ·exact(Below.heap_alloc _ _ _ akh).trans (by have:=hCh (((w.alloc o).alloc (.cells #[.slice none 0 0,aU 0] 52)).alloc (.cells #[.slice none 0 0,aU 0] 52));simp only[World.size_alloc]at this;exact this)
  ·rcases ei with ei|⟨x,hx,_⟩
   ·rcases ej with ej|⟨x,hx,_⟩
    ·have e1:b=w.heap.size+1+i:=ei;have e2:b=w.heap.size+1+j:=ej;omega
    ·cases hx
   ·cases hx
 refine bodyPost_ret (v:=.pointer (some ⟨w.heap.size+1+1+1+1,0,none⟩)) (by simp[results,Tryz.results7,go_sem]) rfl ⟨_,fun k=>w.heap.size+1+k,rfl,hpost _ _ dF,fun b hb=>?_,?_⟩
 ·rcases hb with rfl|⟨k,hk,(hb|⟨x,hx,_⟩)|hb⟩
  ·omega
  ·have e1:b=w.heap.size+1+k:=hb;omega
  ·cases hx
  ·cases hb
 ·exact(((((Below.refl _ _).alloc (Nat.le_refl _) _).alloc dY _).alloc eU _).alloc eU _).alloc eU _
theorem aBw{w:World}{C:Nat}{c:HC}{v:Value}{pl:List RP}(h:nM w C c v pl)(h8:pl.length≤8)(id:Int){x:RP}(hx:pl[hfind c.l id]?=some x) :
  Calls Tryz.prog 49 #[.pointer (some ⟨C,0,none⟩),aU id] w fun e w'=>e=.returned (wR x)∧w'=w:=by
 obtain⟨og,cap,rfl,hcl⟩:=h.form;have c0:=h.cell0;obtain⟨n,hn⟩:∃ n,pl.length=n:=⟨_,rfl⟩;rw[hn]at c0 h8;have H:=bW h;have U5:=bW hcl;have HN:=bW hn;have hlt:hfind c.l id<n:=by rw[←hn];exact(List.getElem?_eq_some_iff.1 hx).1
 obtain⟨f,hf⟩:∃ f,hfind c.l id=f:=⟨_,rfl⟩;have HF:=bW hf;rw[hf]at hx hlt;have HX:=bW hx;clear h hcl hn hf hx;go_enter Tryz.func49,Tryz.ntmps49;go_wp2_with fail;go_loopw [12] (fun i wr=>∃ a:Nat,i=aU a∧a≤f∧wr=w) (fun i _=>n-(intOf i).toNat)
 case atStart=>exact⟨0,rfl,Nat.zero_le _,rfl⟩
 case round =>
  obtain⟨a,rfl,haf,rfl⟩:=hrel;refine auP ?_;intro h1 y hy;obtain⟨g,rfl,hgl,cy⟩:=U5.out a y hy;have hpy:=H.out.LP y (List.mem_of_getElem? hy);have cz:wr.cell? ⟨y.2.1,0,none⟩=some (aU y.1.id):=(hpy.cell 0).trans rfl;have zy:=hpy.typed.lt;have hly:c.l[a]?=some y.1:=by rw[←H.out.l,List.getElem?_map,hy];rfl
  have HY:=bW hy;unfold wR at cy;clear hpy hy;by_cases e:a=f
  ·subst e;have hid:y.1.id=id:=as4 (by rw[HF.out];exact hly);have he:(y.1.id==id)=true:=by simpa using hid
   have HYX:=bW (show y=x by have:=HX.out;rw[HY.out]at this;exact Option.some.inj this);clear hid hly;go_wp2_with fail;go_ret
   exact⟨by rw[←HYX.out];rfl,rfl⟩
  ·have hne:y.1.id≠id:=fun e2=>by
    have h2:=HF.out;unfold hfind at h2;have h3:=List.not_of_lt_findIdx (p:=fun p:HP=>p.id==id) (xs:=c.l) (i:=a) (by rw[h2];omega);rw[List.getElem?_eq_getElem (List.getElem?_eq_some_iff.1 hly).1]at hly;rw[Option.some.inj hly]at h3;simp[e2]at h3
   have he:(y.1.id==id)=false:=by simpa using hne
   clear hne hly;exact aEG
theorem azE{w:World}{C:Nat}{c:HC}{v:Value}{pl:List RP}(h:nM w C c v pl)(h8:pl.length≤8)(id:Int)(hx:∀ p∈c.l,p.id≠id) :
  Calls Tryz.prog 49 #[.pointer (some ⟨C,0,none⟩),aU id] w fun e w'=>e=.returned (.pointer none)∧w'=w:=by
 obtain⟨og,cap,rfl,hcl⟩:=h.form;have c0:=h.cell0;obtain⟨n,hn⟩:∃ n,pl.length=n:=⟨_,rfl⟩;rw[hn]at c0 h8;have H:=bW h;have U5:=bW hcl;have HN:=bW hn;have HX:=bW hx;clear h hcl hn hx;go_enter Tryz.func49,Tryz.ntmps49;go_wp2_with fail;go_loopw [12] (fun i wr=>∃ a:Nat,i=aU a∧a≤n∧wr=w) (fun i _=>n-(intOf i).toNat)
 case atStart=>exact⟨0,rfl,Nat.zero_le _,rfl⟩
 case round =>
  obtain⟨a,rfl,haf,rfl⟩:=hrel;by_cases e:a<n
  ·refine auP ?_;intro h1 y hy;obtain⟨g,rfl,hgl,cy⟩:=U5.out a y hy;have hpy:=H.out.LP y (List.mem_of_getElem? hy);have cz:wr.cell? ⟨y.2.1,0,none⟩=some (aU y.1.id):=(hpy.cell 0).trans rfl;have zy:=hpy.typed.lt;have hne:y.1.id≠id:=HX.out _ (by rw[←H.out.l];exact List.mem_map_of_mem (List.mem_of_getElem? hy));have he:(y.1.id==id)=false:=by simpa using hne
   unfold wR at cy;clear hpy hy hne;exact aEG
  ·obtain rfl:a=n:=bQ;exact ac0
end Go.Proofs.YtglilddlhibogaaGreatDoor.W
namespace Go.Proofs.YtglilddlhibogaaGreatDoor.W
open Go.RowKit Go.Proofs.YtglilddlhibogaaGreatDoor.P
theorem aCJ:((Tryz.prog).info? 60).map (fun i=>(i.zero,i.size,i.bytes))=some (some (.pointer none),1,8):=dF
theorem aCK{wr:World}{C B:Nat}{lv v0:Value}{jQ:List RP}{c':HC}(hblk:wr.heap[C]?=some (.cells #[v0,aU c'.next] 52 (0,0)))(hl:jQ.map (·.1)=c'.l)(hrow:wr.ownsRow B 60 1 lv jQ.length (jQ.map wR))(hp:∀ x∈jQ,BD wr x)(hnd:(jQ.map (·.2.1)).Nodup) :
  nM (wr.setCell ⟨C,0,none⟩ lv) C c' lv jQ:=by
 have hf:=D5 wr C 0 lv;have hT:Typed wr C 52:=⟨_,hblk⟩;have no:∀ {b:Nat} {t:TypeId},Typed wr b t→t≠52→¬b=C:=fun ht n e=>n ((e▸ht).same hT);refine⟨hl,?_,amO (hf.row hrow fun k hk=>no (kD hrow k hk) dS) (Nat.zero_le _),fun x hx=>(hp x hx).fG hf (no (hp x hx).typed dS) fun k hk=>no hk dS,hnd⟩;simp[World.setCell,Array.getElem?_modify,hblk]
def kept(pl:List RP)(id:Int)(a:Nat):List RP:=(pl.take a).filter fun x=>!(x.1.id==id)
theorem aKE{pl:List RP}{id:Int}{a:Nat}{x:RP}(h:pl[a]?=some x):kept pl id (a+1)=if x.1.id=id then kept pl id a else kept pl id a++[x]:=by
 unfold kept;rw[List.take_add_one,h,List.filter_append,Option.toList_some];by_cases e:x.1.id=id
 ·rw[dB e,List.filter_cons,dw (by simp[e])];simp
 ·rw[dw e,List.filter_cons,dB aeI];rfl
theorem kept_len(pl:List RP)(id:Int)(a:Nat):(kept pl id a).length≤a:=by
 unfold kept;have:=List.length_filter_le (fun x:RP=>!(x.1.id==id)) (pl.take a);rw[List.length_take]at this;omega
theorem aKF{w:World}{C:Nat}{c:HC}{v:Value}{pl:List RP}(h:nM w C c v pl)(h8:pl.length≤8)(ahh:(c.l.map (·.id)).Nodup)(id:Int) :
  Calls Tryz.prog 23 #[.pointer (some ⟨C,0,none⟩),aU id] w fun e w'=>e=.returned (aU (c.detach id).2)∧(∃ v' jQ,nM w' C (c.detach id).1 v' jQ∧dQ (iT C pl) w w'∧∀ b,iT C jQ b→iT C pl b∨w.heap.size≤b)∧((c.detach id).2≠0→Below w.heap.size w w'):=by
 have hpl:pl.length=c.l.length:=aqe;by_cases hf:hfind c.l id<c.l.length
 ·have e1:c.detach id=({ c with l:=c.l.eraseIdx (hfind c.l id)},0):=by unfold HC.detach;rw[dB hf]
  rw[e1];obtain⟨x,hx⟩:∃ x,pl[hfind c.l id]?=some x:=⟨_,List.getElem?_eq_getElem bQ⟩;have D6:=bW (aBw h h8 id hx);obtain⟨og,cap,rfl,hcl⟩:=h.form;have c0:=h.cell0;have g0:=h.free 0;have Oi:=h.typed.lt;obtain⟨n,hn⟩:∃ n,pl.length=n:=⟨_,rfl⟩;rw[hn]at c0 h8;obtain⟨i0,hi0,hz0,hz1,hz2⟩:=info_parts aCJ;have HE:=bW (show c.l.eraseIdx (hfind c.l id)=(kept pl id n).map (·.1)by
   rw[←ayH id c.l ahh,←h.l]
   unfold kept
   rw[List.take_of_length_le bQ,List.filter_map];rfl)
  have H:=bW h;have U5:=bW hcl;have HN:=bW hn;clear h hcl hn hpl hf e1 hx ahh;unfold wR at D6;go_enter Tryz.func23,Tryz.ntmps23;go_wp2_with fail;refine D6.out.mono ?_;rintro e w1 ⟨rfl,rfl⟩;go_wp2_with fail;go_loopw [17,5] (fun i lv wr=>∃ a:Nat,i=aU a∧a≤n∧wr.ownsRow w1.heap.size 60 1 lv (kept pl id a).length ((kept pl id a).map wR)∧Below w1.heap.size w1 wr) (fun i _ _=>n-(intOf i).toNat)
  case atStart=>exact⟨0,rfl,Nat.zero_le _,World.ownsRow_nil _ _ _ _,Below.refl _ _⟩
  case round =>
   obtain⟨a,rfl,han,hrow,hB⟩:=hrel;obtain⟨oy,cy,rfl⟩:=pI hrow;have hkl:=kept_len pl id a;have uF:=bW hrow;have HB:=bW hB;have Gt:=hB.size;by_cases e:a<n
   ·refine auP ?_;intro h1 y hy;obtain⟨g,rfl,hgl,cy0⟩:=U5.out a y hy;have hpy:=H.out.LP y (List.mem_of_getElem? hy);have cy1:=(hB.cell (p:=⟨g,a,none⟩) hgl).trans cy0;have cz:wr.cell? ⟨y.2.1,0,none⟩=some (aU y.1.id):=(hB.cell (p:=⟨y.2.1,0,none⟩) hpy.typed.lt).trans ((hpy.cell 0).trans rfl);have zy:y.2.1<wr.heap.size:=Nat.lt_of_lt_of_le hpy.typed.lt Gt;have hks:=aKE (id:=id) hy;unfold wR at cy1;clear hpy hy cy0 hrow hB;by_cases he:y.1.id=id
    ·have he':(y.1.id==id)=true:=by simpa using he
     rw[dB he]at hks;have YK:=bW hks;clear hks he;go_wp2_with fail;go_roundw
     case rel=>exact⟨a+1,by go_num,by omega,by rw[YK.out];exact uF.out,HB.out⟩
     case measure=>simp[intOf];omega
    ·have he':(y.1.id==id)=false:=by simpa using he
     rw[dw he]at hks;have YK:=bW hks;clear hks he;go_wp2_with (at_builtin;refine wpList_append_lies _ iC (.tmp 27) (.tmp 29) 50 iC w1.heap.size 60 i0 _ 1 8 Tryz.underlying50 hi0 hz0 hz1 hz2 rfl bQ (.slice oy (kept pl id a).length cy) (kept pl id a).length ((kept pl id a).map wR) iC (uF.out.alloc _) ⟨wr.heap.size,0,none⟩ 1 1 [.pointer (some ⟨y.2.1,0,none⟩)] iC iC (World.news_of_block (cs:=#[.pointer (some ⟨y.2.1,0,none⟩)]) (t:=60) (fr:=(0,0)) (heap_alloc_new wr _)) aaK bQ JF bQ eU (wr.heap.size+1) dY ?_;intro g7 JH w7 Tt Zg _ _);go_roundw
     case rel =>
      go_light;refine⟨a+1,by go_num,by omega,?_,?_⟩
      ·rw[YK.out,List.length_append,List.map_append];exact Tt
      ·exact aBD
     case measure=>simp[intOf];omega
   ·obtain rfl:a=n:=bQ;have c1:=(hB.cell (p:=⟨C,0,none⟩) Oi).trans c0;have g1:=(hB.frozen (p:=⟨C,0,none⟩) Oi).trans g0;have aPs:C<wr.heap.size:=Nat.lt_of_lt_of_le Oi Gt;clear hrow hB;go_wp2_with fail;go_ret
    have hsub:(kept pl id a).Sublist pl:=by unfold kept;exact List.filter_sublist.trans (List.take_sublist _ _)
    refine⟨rfl,⟨_,kept pl id a,aCK (c':={ c with l:=c.l.eraseIdx (hfind c.l id)}) ((HB.out.block C Oi).trans H.out.blk) HE.out.symm uF.out (fun x hx=>(H.out.LP x (hsub.subset hx)).fG (M:=fun _=>False) (dQ.of HB.out) (fun h=>h) (fun _ _ h=>h)) (H.out.apart.sublist (hsub.map _)),?_,fun b hb=>?_⟩,fun h=>absurd rfl h⟩
    ·exact(dQ.of HB.out).trans ((D5 _ C 0 _).mono fun b _ e=>.inl e)
    ·rcases hb with hb|⟨x,hx,hb⟩
     ·exact .inl (.inl hb)
     ·exact .inl (.inr ⟨x,hsub.subset hx,hb⟩)
 ·have e1:c.detach id=(c,7):=by unfold HC.detach;rw[dw hf]
  rw[e1];have D6:=bW (azE h h8 id (apl hf));have H:=bW h;clear h;go_enter Tryz.func23,Tryz.ntmps23;go_wp2_with fail;refine D6.out.mono ?_;rintro e w1 ⟨rfl,rfl⟩;go_wp2_with fail;go_ret
  exact⟨rfl,⟨v,pl,H.out,dQ.refl _ _,fun b hb=>.inl hb⟩,fun _=>Below.refl _ _⟩
theorem aKG{w:World}{R:Nat}{d:HD}{Cs:Nat→Nat}{vs qs:Nat→Value}{dO:Nat→List RP}(h:xX w R d Cs vs qs dO)(k:Nat)(hk:k<3)(told:Nat→Int)(hq:(d.q k).length<20) :
  Calls Tryz.prog 26 #[.pointer (some ⟨R,0,none⟩),aU k,.agg (t8 told).toArray] w fun e w'=>e=.returned (aU 0)∧∃ iW,xX w' R (d.event k told) Cs vs iW dO∧dQ (qo R Cs qs dO) w w'∧∀ b,qo R Cs iW dO b→qo R Cs qs dO b∨w.heap.size≤b:=by
 have hd2:(decide (0≤(k:Int))&&decide ((k:Int)≤2))=true:=eU;have k4:(k:Int)<3:=bQ;have kq:¬20≤((d.q k).length:Int):=bQ;unfold t8;obtain⟨og,cap,yZ⟩:=(h.queue k hk).form;have c0:=(h.img.cell (3+k) bQ).trans (congrArg some (agV hk));rw[yZ]at c0;have g0:=h.img.free (3+k) bQ;have hD:=h.typed.lt;have H:=bW h;clear h;obtain⟨W,hW⟩:∃ W,W=((w.alloc (.cells #[aU (told 0),aU (told 1),aU (told 2),aU (told 3),aU (told 4),aU (told 5),aU (told 6),aU (told 7)] 34)).alloc (.cells #[aU (told 0),aU (told 1),aU (told 2),aU (told 3),aU (told 4),aU (told 5),aU (told 6),aU (told 7)] 34)).drew:=⟨_,rfl⟩;have hbW:Below w.heap.size w W:=hW▸(((Below.refl _ _).alloc (Nat.le_refl _) _).alloc dY _).drew;have hqW:DW W (d.q k) (qs k):=(H.out.queue k hk).fG (M:=fun _=>False) (dQ.of hbW) (fun _ _=>id);obtain⟨v',W',hrun,hq',hgr,hown⟩:=aIm W (d.q k) (qs k) told (w.heap.size+1) 1 hqW hq (fun j u hj=>by
  rw[hW]
  have:=heap_alloc_new (w.alloc (.cells #[aU (told 0),aU (told 1),aU (told 2),aU (told 3),aU (told 4),aU (told 5),aU (told 6),aU (told 7)] 34)) (.cells #[aU (told 0),aU (told 1),aU (told 2),aU (told 3),aU (told 4),aU (told 5),aU (told 6),aU (told 7)] 34)
  rw[World.size_alloc]at this
  exact(cell_of_row _ (w.heap.size+1) j _ _ (0,0) this).trans (by simpa[t8]using hj))
 obtain⟨og',cap',rfl⟩:=hq'.form;have hDn:(qs k).ownBlock≠some R:=fun e=>by
  have:=((H.out.queue k hk).typed R e).ne H.out.typed dS;exact this rfl
 have hDW:W.heap[R]?=w.heap[R]?:=hbW.block R hD;have aaI:W'.heap[R]?=w.heap[R]?:=(hgr.block R (Nat.lt_of_lt_of_le hD hbW.size) (fun e=>hDn e.symm)).trans hDW;have c1:W'.cell? ⟨R,3+k,none⟩=some (.slice og (d.q k).length cap):=(World.cell?_of_block (w:=w) (a:=⟨R,3+k,none⟩) aaI).trans c0;have g1:W'.frozen? ⟨R,3+k,none⟩=false:=(World.frozen?_of_block (w:=w) (a:=⟨R,3+k,none⟩) aaI).trans g0;rw[yZ,hW]at hrun;have wV:=hrun;have mixed:Tryz.prog.follows .mixedOrders=true:=dF;have HW:=bW hW;have LD:=bW hbW;have HQ:=bW hq';have HG:=bW hgr;have HDW:=bW aaI;clear hW hbW hqW hq' hgr hDW aaI hrun yZ;go_enter Tryz.func26,Tryz.ntmps26;go_upto_region 5 with (go_at_call 50;refine(Zd _ _ _ _).mono ?_;rintro e w' ⟨rfl,rfl⟩;rw[hd2])
 go_region_law_o (refine apa rfl (.tmp 25) (.tmp 27) 41 41 rfl (.slice og (d.q k).length cap) (.slice (some ⟨w.heap.size+1,0,none⟩) 1 1) acN acN (wV _) ?_)
 all_goals
  go_wp2_with fail;go_ret
  refine ax1 ?_;intro hf;have hset:=H.out.apb hk hf HQ.out (by
   rcases hown with x|x
   ·exact .inl fun b hb=>by rw[←x];exact hb
   ·exact .inr fun b hb=>Nat.le_trans LD.out.size (x b hb))
  have he:d.event k told={ d with q:=upd d.q k (d.q k++[told])}:=by unfold HD.event;rw[dw bQ]
  rw[he];simpa using hset
theorem aKH{w:World}{R:Nat}{d:HD}{Cs:Nat→Nat}{vs qs:Nat→Value}{dO:Nat→List RP}(h:xX w R d Cs vs qs dO)(k:Nat)(hk:k<3)(told:Nat→Int) :
  Calls Tryz.prog 26 #[.pointer (some ⟨R,0,none⟩),aU k,.agg (t8 told).toArray] w fun e w'=>e=.returned (aU (if 20≤(d.q k).length then 12 else 0))∧∃ iW,xX w' R (d.event k told) Cs vs iW dO∧dQ (qo R Cs qs dO) w w'∧∀ b,qo R Cs iW dO b→qo R Cs qs dO b∨w.heap.size≤b:=by
 by_cases hq:20≤(d.q k).length
 ·rw[dB hq,show d.event k told=d by unfold HD.event;rw[dB hq]];have hd2:(decide (0≤(k:Int))&&decide ((k:Int)≤2))=true:=eU;have k4:(k:Int)<3:=bQ;have kq:20≤((d.q k).length:Int):=bQ;unfold t8;obtain⟨og,cap,yZ⟩:=(h.queue k hk).form;have c0:=(h.img.cell (3+k) bQ).trans (congrArg some (agV hk));rw[yZ]at c0;have hD:=h.typed.lt;have H:=bW h;clear h yZ;go_enter Tryz.func26,Tryz.ntmps26;go_wp2_with (go_at_call 50;refine(Zd _ _ _ _).mono ?_;rintro e w' ⟨rfl,rfl⟩;rw[hd2]);go_ret
  have hb:Below w.heap.size w (w.alloc (.cells #[aU (told 0),aU (told 1),aU (told 2),aU (told 3),aU (told 4),aU (told 5),aU (told 6),aU (told 7)] 34)):=(Below.refl _ _).alloc (Nat.le_refl _) _;exact⟨rfl,qs,H.out.later hb,dQ.of hb,fun b hb=>.inl hb⟩
 ·rw[dw hq];exact aKG h k hk told bQ
end Go.Proofs.YtglilddlhibogaaGreatDoor.W
