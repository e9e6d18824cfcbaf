/- A part of the proof; each theorem states its conditions. -/
import Derived.Test.YtglilddlhibogaaGreatDoorW1
import Derived.Deep.AppendLies
set_option linter.unusedSimpArgs false
set_option linter.unusedVariables false
set_option maxRecDepth 100000
set_option maxHeartbeats 100000000
namespace Go.Proofs.YtglilddlhibogaaGreatDoor.W
open Go.RowKit Go.Proofs.YtglilddlhibogaaGreatDoor.P
structure Rest(b:Nat)(row:Option Nat)(w w':World):Prop where
  os:w'.os=w.os
  tape:w'.tape=w.tape
  output:w'.output=w.output
  size:w.heap.size≤w'.heap.size
  block:∀ k,k<w.heap.size→k≠b→some k≠row→w'.heap[k]?=w.heap[k]?
theorem Rest.refl(b:Nat)(row:Option Nat)(w:World):Rest b row w w:=⟨rfl,rfl,rfl,Nat.le_refl _,fun _ _ _ _=>rfl⟩
theorem Rest.later{b:Nat}{row:Option Nat}{x y z:World}(h:Rest b row x y)(k:Below y.heap.size y z):Rest b row x z :=
  ⟨k.os.trans h.os,k.tape.trans h.tape,k.output.trans h.output,Nat.le_trans h.size k.size,fun i hi ne nr=>(k.block i (Nat.lt_of_lt_of_le hi h.size)).trans (h.block i hi ne nr)⟩
theorem Rest.but{b c:Nat}{row:Option Nat}{x y z:World}(h:Rest b row x y)(k:But c y z)(hc:c=b∨x.heap.size≤c):Rest b row x z :=
  ⟨k.os.trans h.os,k.tape.trans h.tape,k.output.trans h.output,Nat.le_trans h.size k.size,fun i hi ne nr=>(k.block i (Nat.lt_of_lt_of_le hi h.size) bQ).trans (h.block i hi ne nr)⟩
theorem Rest.grown{b:Nat}{row:Option Nat}{x y z:World}(h:Rest b row x y)(k:y.grownBy z row):Rest b row x z :=
  ⟨k.os.trans h.os,k.tape.trans h.tape,k.output.trans h.output,Nat.le_trans h.size k.size,fun i hi ne nr=>(k.block i (Nat.lt_of_lt_of_le hi h.size) nr).trans (h.block i hi ne nr)⟩
def apE(code v:Value)(k:Wk):Nat→Value:=fun j=>if j=0 then code else if j=1 then aU (4000-k.looks)else v
def XL:List P.B→List Value
  |[]=>[]
  |x::l=>aU x.lo::aU x.hi::XL l
theorem aIe(l:List P.B)(x:P.B):XL (l++[x])=XL l++[aU x.lo,aU x.hi]:=by
  induction l with
  |nil=>rfl
  |cons y l ih=>simp[XL,ih]
theorem atq:∀ (l:List P.B) (j:Nat) (x:P.B),l[j]?=some x→(XL l)[j*2]?=some (aU x.lo)∧(XL l)[j*2+1]?=some (aU x.hi)
  |[],j,x,h=>by simp at h
  |y::l,0,x,h=>by simp at h;subst h;exact⟨rfl,rfl⟩
  |y::l,j+1,x,h=>by
    have:=atq l j x (by simpa using h);refine⟨?_,?_⟩
    · rw[show(j+1)*2=j*2+1+1 by omega];simpa[XL]using this.1
    · rw[show(j+1)*2+1=(j*2+1)+1+1 by omega];simpa[XL]using this.2
structure AY(w:World)(b:Nat)(code v:Value)(k:Wk):Prop where
  img:P.Img w b 3 (apE code v k)
  own:w.ownsRow (b+1) 127 2 v k.ends.length (XL k.ends)
theorem AY.lt{w:World}{b:Nat}{code v:Value}{k:Wk}(h:AY w b code v k):b<w.heap.size:=h.img.lt bQ
theorem AY.row{w:World}{b:Nat}{code v:Value}{k:Wk}(h:AY w b code v k){g:Nat}(hg:v.ownBlock=some g):b<g∧g<w.heap.size:=h.own.lt g hg
theorem atr{w w':World}{base:Nat}{e:TypeId}{size:Nat}{v:Value}{n:Nat}{xs:List Value}(h:w.ownsRow base e size v n xs)(hb:∀ g,v.ownBlock=some g→w'.heap[g]?=w.heap[g]?):w'.ownsRow base e size v n xs:=by
  refine⟨h.1,?_⟩;rcases h.2 with hn|⟨g,cap,cur,rfl,hb',hgg,rest⟩
  · exact .inl hn
  · exact .inr ⟨g,cap,cur,rfl,hb',(hb g rfl).trans hgg,rest⟩
theorem AY.keep{w w':World}{b:Nat}{code v:Value}{k:Wk}(h:AY w b code v k)(hb:w'.heap[b]?=w.heap[b]?)(hr:∀ g,v.ownBlock=some g→w'.heap[g]?=w.heap[g]?):AY w' b code v k :=
  ⟨h.img.of_block hb,atr h.own hr⟩
theorem AY.later{w w':World}{b:Nat}{code v:Value}{k:Wk}(h:AY w b code v k)(hb:Below w.heap.size w w'):AY w' b code v k :=
  h.keep (hb.block b h.lt) fun g hg=>hb.block g (h.row hg).2
theorem AY.but{w w':World}{b c:Nat}{code v:Value}{k:Wk}(h:AY w b code v k)(hb:But c w w')(hc:b≠c)(hr:∀ g,v.ownBlock=some g→g≠c):AY w' b code v k :=
  h.keep (hb.block b h.lt hc) fun g hg=>hb.block g (h.row hg).2 (hr g hg)
theorem AY.looked{w:World}{b:Nat}{code v:Value}{k:Wk}(h:AY w b code v k)(l:Int):AY (w.setCell ⟨b,1,none⟩ (aU (4000-l))) b code v ⟨l,k.ends⟩ :=
  ⟨(h.img.set (j:=1) bQ _).congr fun j hj=>by
      rcases j with _|_|_|j
      · rfl
      · rfl
      · rfl
      · omega,atr h.own fun g hg=>Below.heap_setCell _ _ _ _ (by have:=(h.row hg).1;simp only;omega)⟩
theorem AY.ended{w:World}{b:Nat}{code v v':Value}{k:Wk}{E:List P.B}(h:P.Img w b 3 (apE code v k))(ho:w.ownsRow (b+1) 127 2 v' E.length (XL E)):AY (w.setCell ⟨b,2,none⟩ v') b code v' ⟨k.looks,E⟩ :=
  ⟨(h.set (j:=2) bQ _).congr fun j hj=>by
      rcases j with _|_|_|j
      · rfl
      · rfl
      · rfl
      · omega,atr ho fun g hg=>Below.heap_setCell _ _ _ _ (by have:=(ho.lt g hg).1;simp only;omega)⟩
structure BL(b:Nat)(code v:Value)(w:World)(v':Value)(k':Wk)(w':World):Prop where
  look:AY w' b code v' k'
  rest:Rest b v.ownBlock w w'
  row:∀ g,v'.ownBlock=some g→v.ownBlock=some g∨w.heap.size≤g
theorem BL.refl{b:Nat}{code v:Value}{w:World}{k:Wk}(h:AY w b code v k):BL b code v w v k w:=⟨h,Rest.refl _ _ _,fun g hg=>.inl hg⟩
theorem BL.later{b:Nat}{code v v':Value}{w x y:World}{k:Wk}(h:BL b code v w v' k x)(hb:Below x.heap.size x y):BL b code v w v' k y:=⟨h.look.later hb,h.rest.later hb,h.row⟩
theorem BL.but{b c:Nat}{code v v':Value}{w x y:World}{k:Wk}(h:BL b code v w v' k x)(hb:But c x y)(hc:w.heap.size≤c)(hbc:b≠c)(hr:v'.ownBlock≠some c):BL b code v w v' k y :=
  ⟨h.look.but hb hbc fun g hg e=>hr (e▸hg),h.rest.but hb (.inr hc),h.row⟩
theorem BL.trans{b:Nat}{code v v1 v2:Value}{w x y:World}{k1 k2:Wk}(h:BL b code v w v1 k1 x)(h2:BL b code v1 x v2 k2 y):BL b code v w v2 k2 y:=by
  refine⟨h2.look,⟨h2.rest.os.trans h.rest.os,h2.rest.tape.trans h.rest.tape,h2.rest.output.trans h.rest.output,Nat.le_trans h.rest.size h2.rest.size,fun i hi ne nr=>?_⟩,fun g hg=>?_⟩
  · refine(h2.rest.block i (Nat.lt_of_lt_of_le hi h.rest.size) ne fun e=>?_).trans (h.rest.block i hi ne nr);rcases h.row i e.symm with h1|h1
    · exact nr h1.symm
    · omega
  · rcases h2.row g hg with h1|h1
    · exact h.row g h1
    · exact .inr (Nat.le_trans h.rest.size h1)
theorem BL.img{b c n:Nat}{code v v':Value}{w w':World}{k:Wk}{I:Nat→Value}(h:BL b code v w v' k w')(hI:P.Img w c n I)(hn:0<n)(hc:c≠b)(hr:v.ownBlock≠some c):P.Img w' c n I :=
  hI.of_block (h.rest.block c (hI.lt hn) hc (Ne.symm hr))
theorem BL.below{b:Nat}{code v v':Value}{w w':World}{k k0:Wk}(h:BL b code v w v' k w')(h0:AY w b code v k0):Below b w w' :=
  ⟨h.rest.os,h.rest.tape,h.rest.output,h.rest.size,fun i hi=>h.rest.block i (by have:=h0.lt;omega) bQ (fun e=>by have:=(h0.row e.symm).1;omega)⟩
theorem BL.size{b:Nat}{code v v':Value}{w w':World}{k:Wk}(h:BL b code v w v' k w'):w.heap.size≤w'.heap.size:=h.rest.size
theorem row_ne{v v':Value}{w:World}{c:Nat}(h:∀ g,v'.ownBlock=some g→v.ownBlock=some g∨w.heap.size≤g)(hl:∀ g,v.ownBlock=some g→g<w.heap.size)(hc:c<w.heap.size)(hv:v.ownBlock≠some c):v'.ownBlock≠some c:=fun e=>by
  rcases h c e with h1|h1
  · exact hv h1
  · omega
def asz(b:Nat)(code v:Value)(w:World)(r:VR)(e:Ending)(w':World):Prop:=∃ v',e=.returned (.agg #[aU r.1.1,aU r.1.2])∧BL b code v w v' r.2 w'
theorem nH.under{w w':World}{b:Nat}(h:nH w)(hb:Below b w w')(hl:4<b):nH w':=⟨(hb.cell (p:=⟨4,0,none⟩) hl).trans h.1,(hb.cell (p:=⟨4,1,none⟩) hl).trans h.2⟩
theorem Cells.under{w w':World}{a:Addr}{S:Nat→Step}{n b:Nat}(h:Cells w a S n)(hb:Below b w w')(hl:a.block<b):Cells w' a S n:=by
  have hbl:∀ i,(a.add i).block=a.block:=fun i=>by unfold Addr.add;split<;>rfl
  intro i hi;obtain⟨e0,e1,e2,e3,e4,e5⟩:=h i hi;have l:(a.add (i*6)).block<b:=by rw[hbl];exact hl
  exact azf
def aw8(S:Nat→Step)(a:Addr)(n cap b f:Nat):Prop:=∀ (s:VS) (pc:Nat) (k:Wk) (v:Value) (w:World),kG s→pc<n→n≤pc+f→0≤k.looks→k.looks≤4000→(k.ends.length:Int)≤k.looks→(∀ e∈k.ends,e.Ok)→nH w→Cells w a S n →
  AY w b (.slice (some a) n cap) v k →
  Calls Tryz.prog 74 #[.pointer (some ⟨b,0,none⟩),.agg (iK fV s).toArray,aU pc] w (asz b (.slice (some a) n cap) v w (iO S f s pc k))
theorem agK{w:World}{b:Nat}{s:VS}(hI:P.Img w b 81 (gQ fV s)){k:Nat}(hk:k<11):w.cell? ⟨b,k*3,none⟩=some (.int .u8 (letter (s.regs k).kind))∧w.cell? ⟨b,k*3+1,none⟩=some (aU (s.regs k).b.lo)∧w.cell? ⟨b,k*3+2,none⟩=some (aU (s.regs k).b.hi) :=
  ⟨(hI.cell (k*3) bQ).trans (congrArg some ((Uw hk (bQ:0<3) bQ).trans (amL _))),(hI.cell (k*3+1) bQ).trans (congrArg some ((Uw hk (bQ:1<3) bQ).trans (ajg _))),(hI.cell (k*3+2) bQ).trans (congrArg some ((Uw hk (bQ:2<3) bQ).trans (ajh _)))⟩
theorem aat{w:World}{b:Nat}{v:Wh}(hI:P.Img w b 3 (fV v)):w.cell? ⟨b,0,none⟩=some (.int .u8 (letter v.kind))∧w.cell? ⟨b,1,none⟩=some (aU v.b.lo)∧w.cell? ⟨b,2,none⟩=some (aU v.b.hi) :=
  ⟨hI.cell 0 bQ,hI.cell 1 bQ,hI.cell 2 bQ⟩
theorem rsize(s:VS):(Tryz.prog.info? 182).map (·.size)=some (iK fV s).length:=by rw[ajv];kernel_rfl
theorem aFu(s:VS):(Tryz.prog.info? 182).map (·.size)=some (iK fV s).toArray.size:=acD
theorem aFv(s:VS):(iK fV s).toArray.all (·.oneCell')=true:=by
  refine all_oneCell_toArray fun v hv=>?_;unfold iK at hv;obtain⟨j,-,rfl⟩:=List.mem_map.1 hv;unfold gQ fV;split<;>split<;>rfl
theorem aFw{w:World}{b:Nat}{s:VS}(ht:w.there b 0 (iK fV s).toArray.size):P.Img (w.setCells b 0 (iK fV s).toArray.toList) b 81 (gQ fV s):=by
  have ht':w.there b 0 (iK fV s).length:=by simpa using ht
  intro j hj;have h:=World.rangeAt_setCells_same w b 0 (iK fV s) ht' j (gQ fV s j) (apF hj);exact azJ
theorem acB{S:Nat→Step}:∀ (f:Nat) (s:VS) (pc:Int) (w:Wk),(w.ends.length:Int)≤w.looks→((iO S f s pc w).2.ends.length:Int)≤(iO S f s pc w).2.looks
  |0,s,pc,w,h=>h
  |f+1,s,pc,w,h=>by
    rw[agJ];split
    · show(w.ends.length:Int)≤w.looks+1;omega
    · have way:∀ (o:Option (VS × Int)) (w:Wk),(w.ends.length:Int)≤w.looks→((rU (iO S f) o w).2.ends.length:Int)≤(rU (iO S f) o w).2.looks:=fun o w h=>by
        cases o with
        |none=>exact h
        |some x=>exact acB f _ _ _ h
      cases s.step (S pc.toNat) pc with
      |done b=>show((w.ends++[b]).length:Int)≤w.looks+1;simp;omega
      |err e=>show(w.ends.length:Int)≤w.looks+1;omega
      |go x y =>
        show((J3 (rU (iO S f) x ⟨w.looks+1,w.ends⟩) (rU (iO S f) y)).2.ends.length:Int)≤(J3 (rU (iO S f) x ⟨w.looks+1,w.ends⟩) (rU (iO S f) y)).2.looks;have h1:=way x ⟨w.looks+1,w.ends⟩ (by show(w.ends.length:Int)≤w.looks+1;omega);unfold J3;split
        · exact h1
        · exact way y _ h1
theorem aHW(s:VS)(w:World)(hg:nH w)(a:Wh)(ha:iL a)(o:Int)(ho:In64 o)(d:P.B)(er:Int)(hke:Ur a o=(d,er))(he:er≠0) :
  Calls Tryz.prog 105 #[.agg (iK fV s).toArray,.agg #[.int .u8 (letter a.kind),aU a.b.lo,aU a.b.hi],aU o] w fun e w' =>
   e=.returned (.tuple #[.agg #[.int .u8 0,aU 0,aU 0],aU er])∧Below w.heap.size w w':=by
 have gz:=hg.lt;refine fU ?_;intro HW0;have C:=bW (fun w (hg:nH w)=>apk a o ha ho w hg);have HK:=bW hke;have HG:=bW hg;have he2:(er !=0)=true:=ap8;have he3:(er==0)=false:=aul;clear hke he ha ho hg;go_enter Tryz.func105,Tryz.ntmps105;go_wp2_with fail;refine amu ?_;rw[HK.out];refine Gy ?_;intro w1 hc1 hf1 hz1 HW1 z10 z11 z12;exact aCL
theorem aHV(s:VS)(w:World)(hg:nH w)(k l h:Int)(hk:k=2∨k=4)(ha:P.B.Ok ⟨l,h⟩)(o:Int)(ho:In64 o)(d:P.B)(hke:Ur ⟨k,⟨l,h⟩⟩ o=(d,0)) :
  Calls Tryz.prog 105 #[.agg (iK fV s).toArray,.agg #[.int .u8 (letter k),aU l,aU h],aU o] w fun e w' =>
   e=.returned (.tuple #[.agg #[.int .u8 110,aU (-9223372036854775808),aU 9223372036854775807],aU 0])∧Below w.heap.size w w':=by
 have gz:=hg.lt;refine fU ?_;intro HW0;have C:=bW (fun w (hg:nH w)=>apk ⟨k,⟨l,h⟩⟩ o ⟨by simp only;omega,ha⟩ ho w hg);have HK:=bW hke;have HG:=bW hg;have t1:(letter k !=102)=true:=by rcases hk with rfl|rfl<;>simp[letter]
 clear hke ha ho hk hg;go_enter Tryz.func105,Tryz.ntmps105;go_wp2_with fail;refine amu ?_;rw[HK.out];refine Gy ?_;intro w1 hc1 hf1 hz1 HW1 z10 z11 z12;have hga:=HG.out.later HW1.out;have gz1:=hga.lt;obtain⟨hg0,hg1⟩:=hga
 (have zX:w1.cell? ⟨w.heap.size+1,0,none⟩=some (.int .u8 (letter k)):=fH;have zZ:w1.frozen? ⟨w.heap.size+1,0,none⟩=false:=fO;have Af:w1.cell? ⟨w.heap.size+1,1,none⟩=some (aU l):=fH;have Ah:w1.frozen? ⟨w.heap.size+1,1,none⟩=false:=fO;have Ai:w1.cell? ⟨w.heap.size+1,2,none⟩=some (aU h):=fH;have Aj:w1.frozen? ⟨w.heap.size+1,2,none⟩=false:=fO)
 exact aCL
end Go.Proofs.YtglilddlhibogaaGreatDoor.W
