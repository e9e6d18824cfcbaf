/- A part of the proof; each theorem states its conditions. -/
import Derived.Test.YtglilddlhibogaaGreatDoorPureOp
import Derived.WalkKit
import Derived.Deep.Draws
set_option linter.unusedSimpArgs false
set_option linter.unusedVariables false
set_option maxRecDepth 100000
set_option maxHeartbeats 100000000
namespace Go.Proofs.YtglilddlhibogaaGreatDoor.P
open Go.RowKit (wrap64)
def rp(i:Nat):Int:=u (2^i)
theorem ayk{i:Nat}(h:i<64):rp i=2^i:=by
  unfold rp;have:=aef h;have:=pow_pos i;unfold u;omega
theorem aG8(i:Nat):0≤rp i∧rp i≤18446744073709551615:=by
  unfold rp;have:=VQ (2^i);have:=adP (2^i);omega
theorem aG9(i:Nat):IntKind.u64.wrap (rp i*2)=rp (i+1):=by
  rw[IntKind.wrap_u64];show u (u (2^i)*2)=u (2^(i+1));rw[asT,Int.pow_succ]
def rx(X:Int)(i:Nat):Int:=u X/2^i
theorem ayl(X:Int):rx X 0=u X:=by unfold rx;rw[Int.pow_zero,Int.ediv_one]
theorem aym(X:Int)(i:Nat):0≤rx X i∧rx X i≤18446744073709551615:=by
  have hp:=pow_pos i;have h1:=VQ X;have h2:=adP X;have:u X/2^i≤u X:=Int.ediv_le_self _ h1;exact⟨Int.ediv_nonneg h1 bQ,by unfold rx;omega⟩
theorem ayn(X:Int)(i:Nat):rx X i/2=rx X (i+1):=by
  unfold rx;rw[Int.ediv_ediv_of_nonneg (by have:=pow_pos i;omega),Int.pow_succ]
theorem ayo(X:Int)(i:Nat):rx X i%2=0∨rx X i%2=1:=bQ
theorem ayp(X:Int)(i:Nat):rx X i=(((u X).toNat/2^i:Nat):Int):=by
  unfold rx;have h:=VQ X;conv=>lhs;rw[←Int.toNat_of_nonneg h]
  push_cast
  rfl
def Un(c:Int)(x y:Nat):Nat:=if c=7 then x&&&y else if c=8 then x|||y else x ^^^ y
def rz(c X Y:Int)(i:Nat):Int:=((Un c (u X).toNat (u Y).toNat%2^i:Nat):Int)
theorem aHa(c X Y:Int):rz c X Y 0=0:=by unfold rz;rw[Nat.pow_zero,Nat.mod_one];rfl
theorem aHb{c X Y:Int}{i:Nat}(h:i<64):0≤rz c X Y i∧rz c X Y i+rp i≤18446744073709551615:=by
  rw[ayk h];unfold rz;have h1:Un c (u X).toNat (u Y).toNat%2^i<2^i:=Nat.mod_lt _ (Nat.two_pow_pos i);have h2:(2:Nat)^i≤2^63:=Nat.pow_le_pow_right dS bQ;have h3:((2^i:Nat):Int)=(2:Int)^i:=by push_cast;rfl
  omega
theorem aHc(c:Int)(x y i:Nat):Un c x y/2^i=Un c (x/2^i) (y/2^i):=by
  unfold Un;split
  · exact Nat.and_div_two_pow
  · split
    · exact Nat.or_div_two_pow
    · exact Nat.xor_div_two_pow
theorem aHd(c:Int)(x y:Nat):Un c x y%2=Un c (x%2) (y%2):=by
  unfold Un;split
  · have:=Nat.and_mod_two_pow (a:=x) (b:=y) (n:=1);simpa using this
  · split
    · have:=Nat.or_mod_two_pow (a:=x) (b:=y) (n:=1);simpa using this
    · have:=Nat.xor_mod_two_pow (a:=x) (b:=y) (n:=1);simpa using this
theorem aHe(c X Y:Int)(i:Nat):rz c X Y (i+1)=rz c X Y i+((Un c (rx X i%2).toNat (rx Y i%2).toNat:Nat):Int)*2^i:=by
  unfold rz;rw[Nat.pow_succ,Nat.mod_mul,aHc,aHd,ayp,ayp];have e:∀ n:Nat,((n:Int)%2).toNat=n%2:=fun n=>by omega
  rw[e,e]
  push_cast
  rw[Int.mul_comm]
theorem aHf{c X Y:Int}(hc:c=7∨c=8∨c=9):wrap64 (rz c X Y 64)=does c X Y:=by
  unfold rz;have hl:Un c (u X).toNat (u Y).toNat%2^64=Un c (u X).toNat (u Y).toNat:=by
    refine Nat.mod_eq_of_lt ?_;unfold Un;split
    · exact Nat.and_lt_two_pow _ (amv Y)
    · split
      · exact Nat.or_lt_two_pow (amv X) (amv Y)
      · exact Nat.xor_lt_two_pow (amv X) (amv Y)
  rw[hl];rcases hc with rfl|rfl|rfl
  · exact(amw X Y).symm
  · exact(ayq X Y).symm
  · exact(ayr X Y).symm
def ra(X:Int)(i:Nat):Int:=X/2^i
theorem aHg(X:Int):ra X 0=X:=by unfold ra;rw[Int.pow_zero,Int.ediv_one]
theorem aHh(X:Int)(i:Nat):ra X i/2=ra X (i+1):=by
  unfold ra;rw[Int.ediv_ediv_of_nonneg (by have:=pow_pos i;omega),Int.pow_succ]
theorem apg{X:Int}(h:In64 X)(i:Nat):-9223372036854775808≤ra X i∧ra X i≤9223372036854775807:=acR h i
theorem aHi{n:Int}{i:Nat}(h1:n≤2^i-1)(h2:1≤i→2^(i-1)-1<n):fill n=2^i-1:=by
  unfold fill;by_cases h0:n≤0
  · rw[dB h0];have hi:i=0:=by
      by_cases hi:i=0
      · exact hi
      · have:=h2 bQ;have:=pow_pos (i-1);omega
    subst hi;rfl
  · rw[dw h0];obtain⟨b1,b2,b3⟩:=aHj (show 0<n by omega);have hi:1≤i:=by
      by_cases hi:i=0
      · subst hi;simp at h1;omega
      · omega
    have h3:=h2 hi;generalize bitLen n.toNat=m at *;have mono:∀ {a b:Nat},a≤b→(2:Int)^a≤2^b:=fun {a b} hab=>by
      have h:=Nat.pow_le_pow_right (n:=2) dS hab;have e1:((2^a:Nat):Int)=(2:Int)^a:=by push_cast;rfl
      have e2:((2^b:Nat):Int)=(2:Int)^b:=by push_cast;rfl
      omega
    have:m=i:=by
      rcases Nat.lt_trichotomy m i with hl|hl|hl
      · have:=mono (show m≤i-1 by omega);omega
      · exact hl
      · have:=mono (show i≤m-1 by omega);omega
    rw[this]
end Go.Proofs.YtglilddlhibogaaGreatDoor.P
namespace Go.Proofs.YtglilddlhibogaaGreatDoor.P
open Go.RowKit
def upd{α:Type}(f:Nat→α)(i:Nat)(v:α):Nat→α:=fun j=>if j=i then v else f j
theorem upd_same{α:Type}(f:Nat→α)(i:Nat)(v:α):upd f i v i=v:=dB rfl
theorem fB{α:Type}{f:Nat→α}{i j:Nat}{v:α}(h:j≠i):upd f i v j=f j:=dw h
def Img(w:World)(b n:Nat)(I:Nat→Value):Prop:=∀ j,j<n→w.cell? ⟨b,j,none⟩=some (I j)∧w.frozen? ⟨b,j,none⟩=false
theorem Img.cell{w:World}{b n:Nat}{I:Nat→Value}(h:Img w b n I)(j:Nat)(hj:j<n):w.cell? ⟨b,j,none⟩=some (I j):=(h j hj).1
theorem Img.free{w:World}{b n:Nat}{I:Nat→Value}(h:Img w b n I)(j:Nat)(hj:j<n):w.frozen? ⟨b,j,none⟩=false:=(h j hj).2
theorem Img.lt{w:World}{b n:Nat}{I:Nat→Value}(h:Img w b n I)(hn:0<n):b<w.heap.size:=World.block_lt_of_cell? w ⟨b,0,none⟩ (h.cell 0 hn)
theorem Img.later{w w':World}{b n B:Nat}{I:Nat→Value}(h:Img w b n I)(hb:Below B w w')(hl:b<B):Img w' b n I:=fun j hj =>
 ⟨(hb.cell (p:=⟨b,j,none⟩) hl).trans (h j hj).1,(hb.frozen (p:=⟨b,j,none⟩) hl).trans (h j hj).2⟩
theorem Img.of_block{w w':World}{b n:Nat}{I:Nat→Value}(h:Img w b n I)(hb:w'.heap[b]?=w.heap[b]?):Img w' b n I:=fun j hj =>
 ⟨(World.cell?_of_block (w:=w) (a:=⟨b,j,none⟩) hb).trans (h j hj).1,(World.frozen?_of_block (w:=w) (a:=⟨b,j,none⟩) hb).trans (h j hj).2⟩
theorem Img.alloc{w:World}{b n:Nat}{I:Nat→Value}(h:Img w b n I)(o:Obj):Img (w.alloc o) b n I:=by
 intro j hj;have hl:=World.block_lt_of_cell? w ⟨b,j,none⟩ (h j hj).1;exact⟨(World.cell?_of_block (w:=w) (a:=⟨b,j,none⟩) (Below.heap_alloc w o b hl)).trans (h j hj).1,(World.frozen?_of_block (w:=w) (a:=⟨b,j,none⟩) (Below.heap_alloc w o b hl)).trans (h j hj).2⟩
theorem Img.drew{w:World}{b n:Nat}{I:Nat→Value}(h:Img w b n I):Img w.drew b n I:=h
theorem Img.drewN{w:World}{b n:Nat}{I:Nat→Value}(h:Img w b n I)(k:Nat):Img (w.drewN k) b n I:=h
theorem Img.other{w:World}{b n:Nat}{I:Nat→Value}(h:Img w b n I){a:Addr}(ha:a.block≠b)(v:Value):Img (w.setCell a v) b n I :=
 h.of_block (Below.heap_setCell w a v b (Ne.symm ha))
theorem Img.set{w:World}{b n:Nat}{I:Nat→Value}(h:Img w b n I){j:Nat}(hj:j<n)(v:Value):Img (w.setCell ⟨b,j,none⟩ v) b n (upd I j v):=by
 intro i hi;refine⟨?_,by simpa using (h i hi).2⟩;by_cases e:i=j
 ·subst e;rw[upd_same];exact World.cell?_setCell_same w _ v (h.cell i hi)
 ·rw[fB e,World.cell?_setCell_other w _ _ v (fun x=>e (Addr.mk.inj x).2.1.symm)];exact h.cell i hi
theorem Img.congr{w:World}{b n:Nat}{I I':Nat→Value}(h:Img w b n I)(e:∀ j,j<n→I j=I' j):Img w b n I':=fun j hj=>⟨(e j hj)▸(h j hj).1,(h j hj).2⟩
theorem Img.of_cells{w:World}{b n:Nat}{c:Array Value}{t:TypeId}(hb:w.heap[b]?=some (.cells c t (0,0)))(hn:n=c.size){I:Nat→Value}(e:∀ j,j<n→c[j]?=some (I j)):Img w b n I:=by
 intro j hj;constructor
 ·simp only[World.cell?,hb,Option.isSome_none,Bool.false_eq_true,if_false];simp[e j hj]
 ·simp[World.frozen?,hb]
structure But(b:Nat)(w w':World):Prop where
 os:w'.os=w.os
 tape:w'.tape=w.tape
 output:w'.output=w.output
 size:w.heap.size≤w'.heap.size
 block:∀ k,k<w.heap.size→k≠b→w'.heap[k]?=w.heap[k]?
theorem But.refl(b:Nat)(w:World):But b w w:=⟨rfl,rfl,rfl,Nat.le_refl _,fun _ _ _=>rfl⟩
theorem But.trans{b:Nat}{x y z:World}(h:But b x y)(k:But b y z):But b x z :=
 ⟨k.os.trans h.os,k.tape.trans h.tape,k.output.trans h.output,Nat.le_trans h.size k.size,fun i hi ne=>(k.block i (Nat.lt_of_lt_of_le hi h.size) ne).trans (h.block i hi ne)⟩
theorem But.of{b:Nat}{w w':World}(h:Below w.heap.size w w'):But b w w':=⟨h.os,h.tape,h.output,h.size,fun k hk _=>h.block k hk⟩
theorem But.drew{b:Nat}{x w:World}(h:But b x w):But b x w.drew:=⟨h.os,h.tape,h.output,h.size,h.block⟩
theorem But.alloc{b:Nat}{x w:World}(h:But b x w)(o:Obj):But b x (w.alloc o) :=
 h.trans ⟨rfl,rfl,rfl,by simp,fun k hk _=>Below.heap_alloc _ _ _ hk⟩
theorem But.setCell{b:Nat}{x w:World}(h:But b x w){p:Addr}(hp:p.block=b∨x.heap.size≤p.block)(u:Value):But b x (w.setCell p u) :=
 ⟨h.os,h.tape,h.output,by simpa using h.size,fun k hk ne=>(Below.heap_setCell _ _ _ _ bQ).trans (h.block k hk ne)⟩
theorem But.below{b:Nat}{w w':World}(h:But b w w')(hb:b≤w.heap.size):Below b w w':=⟨h.os,h.tape,h.output,h.size,fun k hk=>h.block k bQ bQ⟩
theorem But.grown{b:Nat}{w w':World}(h:But b w w'):w.grownBy w' (some b):=⟨h.os,h.tape,h.output,h.size,fun k hk ne=>h.block k hk (fun e=>ne (congrArg some e))⟩
theorem But.cell{b:Nat}{w w':World}(h:But b w w'){p:Addr}{v:Value}(e:w.cell? p=some v)(ne:p.block≠b):w'.cell? p=some v :=
 (World.cell?_of_block (w:=w) (h.block p.block (World.block_lt_of_cell? w p e) ne)).trans e
theorem But.img{b g n:Nat}{w w':World}{I:Nat→Value}(h:But b w w')(hI:Img w g n I)(hn:0<n)(ne:g≠b):Img w' g n I:=hI.of_block (h.block g (hI.lt hn) ne)
end Go.Proofs.YtglilddlhibogaaGreatDoor.P
