/- A part of the proof; each theorem states its conditions. -/
import Derived.Test.YtglilddlhibogaaGreatDoorZZ1
import Derived.Laws.MathBits
import Derived.IntWalk
set_option linter.unusedSimpArgs false
set_option linter.unusedVariables false
set_option maxRecDepth 100000
set_option maxHeartbeats 100000000
namespace Go.Proofs.YtglilddlhibogaaGreatDoor.P
open Go.RowKit (wrap64)
def In64(x:Int):Prop:=-9223372036854775808≤x∧x≤9223372036854775807
instance (x:Int):Decidable (In64 x):=by unfold In64;exact inferInstance
theorem aam(x:Int):In64 (wrap64 x):=by unfold In64 wrap64;omega
theorem EH{x:Int}(h:In64 x):wrap64 x=x:=by unfold In64 at h;unfold wrap64;omega
def u(x:Int):Int:=x%18446744073709551616
theorem VQ(x:Int):0≤u x:=aku
theorem adP(x:Int):u x<18446744073709551616:=aku
theorem adO(x:Int):wrap64 (u x)=wrap64 x:=by unfold wrap64 u;omega
theorem VT{x:Int}(h:In64 x)(h0:0≤x):u x=x:=by unfold u;unfold In64 at h;omega
theorem aL1{x:Int}(h:In64 x)(h0:x<0):u x=x+18446744073709551616:=by unfold u;unfold In64 at h;omega
theorem akv{x y:Int}(h:u x=u y):wrap64 x=wrap64 y:=by rw[←adO x,←adO y,h]
theorem aIS(x y:Int):u (u x+u y)=u (x+y):=aku
theorem au1(x y:Int):u (u x*u y)=u (x*y):=by unfold u;exact(Int.mul_emod x y _).symm
theorem asT(x y:Int):u (u x*y)=u (x*y):=by
  rw[←au1 (u x) y,←au1 x y];congr 2;unfold u;omega
def sh(b:Int):Nat:=(b%64).toNat
theorem adw(b:Int):sh b<64:=by unfold sh;omega
theorem alb(b:Int):u b%64=b%64:=aku
def does(c a b:Int):Int :=
  if c=1 then b else if c=2 then wrap64 (a+b)else if c=3 then wrap64 (a-b)else if c=4 then wrap64 (a*b)
  else if c=5 then(if u b=0 then 0 else wrap64 (u a/u b))else if c=6 then(if u b=0 then a else wrap64 (u a%u b))
  else if c=7 then bits .and .i64 a b else if c=8 then bits .or .i64 a b else if c=9 then bits .xor .i64 a b
  else if c=10 then wrap64 (u a*2^sh b)else if c=11 then wrap64 (u a/2^sh b)else if c=12 then a/2^sh b
  else if c=13 then wrap64 (-a)else 0
def is(c a b:Int):Bool :=
  if c=15 then decide (a=b)else if c=16 then decide (a≠b)else if c=17 then decide (u a>u b)else if c=18 then decide (u a≥u b)
  else if c=19 then decide (u a<u b)else if c=20 then decide (u a≤u b)else if c=21 then decide (a>b)else if c=22 then decide (a≥b)
  else if c=23 then decide (a<b)else if c=24 then decide (a≤b)else false
def asks(c:Int):Bool:=decide (15≤c)&&decide (c≤24)
def fill(n:Int):Int:=if n≤0 then 0 else 2^bitLen n.toNat-1
theorem wrap_i64(x:Int):IntKind.i64.wrap x=wrap64 x:=IntWalk.i64_left x
theorem aNN(op:BinOp)(a b:Int):In64 (bits op .i64 a b):=by
  unfold bits;simp only;rw[wrap_i64];exact aam _
theorem pow_pos(k:Nat):(0:Int)<2^k:=Int.pow_pos dS
theorem acR{a:Int}(h:In64 a)(k:Nat):In64 (a/2^k):=by
  unfold In64 at *;have hp:=pow_pos k;have h1:a/2^k*2^k≤a:=Int.ediv_mul_le a bQ;have h2:a<(a/2^k+1)*2^k:=Int.lt_ediv_add_one_mul_self a hp;generalize (2:Int)^k=p at *;generalize a/p=q at *;constructor
  · by_cases hq:q<0
    · have:(q+1)*p≤(q+1):=by
        have:=Int.mul_le_mul_of_nonpos_left (a:=q+1) (b:=p) (c:=1) bQ bQ;omega
      omega
    · omega
  · by_cases hq:0≤q
    · have:q*1≤q*p:=Int.mul_le_mul_of_nonneg_left bQ hq;omega
    · omega
theorem AL:In64 0:=aaq
theorem aNO{p:Prop}[Decidable p]{x y:Int}(hx:In64 x)(hy:In64 y):In64 (if p then x else y):=by split<;>assumption
theorem Yx{c a b:Int}(ha:In64 a)(hb:In64 b):In64 (does c a b):=by
  unfold does;repeat' (first|assumption|exact aam _|exact AL|exact aNN _ _ _|exact acR ha _|refine aNO ?_ ?_)
theorem auN{n:Int}(h:In64 n):In64 (fill n):=by
  unfold fill;split
  · exact AL
  · rename_i h0;unfold In64 at *;have hb:bitLen n.toNat≤63:=by
      unfold bitLen;split
      · omega
      · rename_i hn;have:=(Nat.log2_lt hn).2 (show n.toNat<2^63 by omega);omega
    have h1:(2:Int)^bitLen n.toNat≤2^63:=by
      have:=Nat.pow_le_pow_right (n:=2) dS hb;exact_mod_cast this
    have:=pow_pos (bitLen n.toNat);have h63:(2:Int)^63=9223372036854775808:=dS;omega
theorem aHj{n:Int}(h:0<n):n<2^bitLen n.toNat∧2^(bitLen n.toNat-1)≤n∧1≤bitLen n.toNat:=by
  have hs:=bitLen_spec n.toNat;have h1:n.toNat≠0:=bQ;have h2:=hs.2 h1;refine⟨?_,?_,?_⟩
  · have:((n.toNat:Nat):Int)<((2^bitLen n.toNat:Nat):Int):=by exact_mod_cast hs.1
    rw[Int.toNat_of_nonneg bQ]at this;simpa using this
  · have:((2^(bitLen n.toNat-1):Nat):Int)≤((n.toNat:Nat):Int):=by exact_mod_cast h2
    rw[Int.toNat_of_nonneg bQ]at this;simpa using this
  · unfold bitLen;rw[dw h1];omega
theorem aFB{h:Int}(hh:In64 h):bitLen h.toNat≤63:=by
  unfold bitLen;split
  · omega
  · rename_i hn;unfold In64 at hh;have:=(Nat.log2_lt hn).2 (show h.toNat<2^63 by omega);omega
theorem aef{k:Nat}(hk:k<64):(2:Int)^k≤9223372036854775808:=by
  have h1:=Nat.pow_le_pow_right (n:=2) dS (show k≤63 by omega);have h2:((2^k:Nat):Int)≤((2^63:Nat):Int):=bQ;have h3:((2^k:Nat):Int)=(2:Int)^k:=by push_cast;rfl
  have h4:((2^63:Nat):Int)=9223372036854775808:=dS;omega
theorem akZ(a:Int):(BitVec.ofInt 64 a).toNat=(u a).toNat:=by
  rw[BitVec.toNat_ofInt];rfl
theorem amw(a b:Int):bits .and .i64 a b=wrap64 (((u a).toNat&&&(u b).toNat:Nat):Int):=by
  show IntKind.i64.wrap ((BitVec.ofInt 64 a&&&BitVec.ofInt 64 b).toNat:Int)=_;rw[wrap_i64,BitVec.toNat_and,akZ,akZ]
theorem ayq(a b:Int):bits .or .i64 a b=wrap64 (((u a).toNat|||(u b).toNat:Nat):Int):=by
  show IntKind.i64.wrap ((BitVec.ofInt 64 a|||BitVec.ofInt 64 b).toNat:Int)=_;rw[wrap_i64,BitVec.toNat_or,akZ,akZ]
theorem ayr(a b:Int):bits .xor .i64 a b=wrap64 (((u a).toNat ^^^ (u b).toNat:Nat):Int):=by
  show IntKind.i64.wrap ((BitVec.ofInt 64 a ^^^ BitVec.ofInt 64 b).toNat:Int)=_;rw[wrap_i64,BitVec.toNat_xor,akZ,akZ]
theorem amv(a:Int):(u a).toNat<2^64:=by have:=adP a;have:=VQ a;omega
end Go.Proofs.YtglilddlhibogaaGreatDoor.P
