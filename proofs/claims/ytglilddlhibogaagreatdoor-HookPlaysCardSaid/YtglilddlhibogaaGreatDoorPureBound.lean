/- A part of the proof; each theorem states its conditions. -/
import Derived.Test.YtglilddlhibogaaGreatDoorPureOp
set_option linter.unusedSimpArgs false
set_option linter.unusedVariables false
set_option maxRecDepth 100000
set_option maxHeartbeats 100000000
namespace Go.Proofs.YtglilddlhibogaaGreatDoor.P
open Go.RowKit (wrap64)
structure B where
  lo:Int
  hi:Int
deriving DecidableEq
def B.Has(b:B)(n:Int):Prop:=b.lo≤n∧n≤b.hi
instance (b:B) (n:Int):Decidable (b.Has n):=by unfold B.Has;exact inferInstance
def B.In(b:B):Prop:=In64 b.lo∧In64 b.hi
def B.Ok(b:B):Prop:=In64 b.lo∧In64 b.hi∧b.lo≤b.hi
theorem B.Ok.in{b:B}(h:b.Ok):b.In:=⟨h.1,h.2.1⟩
def fP:B:=⟨-9223372036854775808,9223372036854775807⟩
def eH(n:Int):B:=⟨n,n⟩
def kK:B:=⟨0,0⟩
def wU(a b:B):B:=⟨min a.lo b.lo,max a.hi b.hi⟩
def ji(a b:B):B × Bool :=
  if max a.lo b.lo>min a.hi b.hi then(kK,false)else(⟨max a.lo b.lo,min a.hi b.hi⟩,true)
def Yc(a b:Int):Int × Bool:=(wrap64 (a+b),decide (wrap64 (a+b)>a)==decide (b>0))
def Yd(a b:Int):Int × Bool:=(wrap64 (a-b),decide (wrap64 (a-b)<a)==decide (b>0))
def EF(low:Int)(a:Bool)(high:Int)(b:Bool):B:=if !a||!b then fP else⟨low,high⟩
def small(n:Int):Bool:=decide (-2147483648≤n∧n≤2147483648)
def Oq(a b:B):B :=
  if small a.lo&&small a.hi&&small b.lo&&small b.hi then
    wU (wU (wU (eH (a.lo*b.lo)) (eH (a.lo*b.hi))) (eH (a.hi*b.lo))) (eH (a.hi*b.hi))
  else fP
def KY(a:B)(k:Nat):B :=
  if wrap64 (a.lo*2^k)/2^k≠a.lo∨wrap64 (a.hi*2^k)/2^k≠a.hi then fP else⟨wrap64 (a.lo*2^k),wrap64 (a.hi*2^k)⟩
def Fp(a b:B):B :=
  if b.lo≠b.hi then(if 0≤a.lo then⟨0,a.hi⟩else fP)
  else if sh b.lo=0 then a
  else if 0≤a.lo then⟨a.lo/2^sh b.lo,a.hi/2^sh b.lo⟩
  else⟨0,9223372036854775807/2^(sh b.lo-1)⟩
def Ir(a b:B):B :=
  if b.lo=b.hi then⟨a.lo/2^sh b.lo,a.hi/2^sh b.lo⟩
  else if 0≤a.lo then⟨0,a.hi⟩else if a.hi<0 then⟨a.lo,-1⟩else a
def sQ(c:Int)(a b:B):B :=
  if c=7∧0≤a.lo∧0≤b.lo then⟨0,min a.hi b.hi⟩
  else if c=7∧0≤a.lo then⟨0,a.hi⟩
  else if c=7∧0≤b.lo then⟨0,b.hi⟩
  else if c=7∨a.lo<0∨b.lo<0 then fP
  else if c=8 then⟨max a.lo b.lo,fill (max a.hi b.hi)⟩
  else⟨0,fill (max a.hi b.hi)⟩
def bdiv(c:Int)(a b:B):B :=
  if a.lo<0∨b.lo<0 then fP else if b.lo=0 then⟨0,a.hi⟩
  else if c=5 then⟨a.lo/b.hi,a.hi/b.lo⟩else⟨0,min a.hi (b.hi-1)⟩
def anU(a b:B):B:=EF (Yc a.lo b.lo).1 ((Yc a.lo b.lo).2||decide (b.lo=0)) (Yc a.hi b.hi).1 ((Yc a.hi b.hi).2||decide (b.hi=0))
def anV(a b:B):B:=EF (Yd a.lo b.hi).1 ((Yd a.lo b.hi).2||decide (b.hi=0)) (Yd a.hi b.lo).1 ((Yd a.hi b.lo).2||decide (b.lo=0))
def dV(c:Int)(a b:B):B :=
  if c=1 then b else if c=2 then anU a b else if c=3 then anV a b else if c=4 then Oq a b
  else if c=5∨c=6 then bdiv c a b else if c=7∨c=8∨c=9 then sQ c a b
  else if c=10 then(if b.lo≠b.hi then fP else KY a (sh b.lo))
  else if c=11 then Fp a b else if c=12 then Ir a b
  else if c=13 then(if a.lo=-9223372036854775808 then fP else⟨-a.hi,-a.lo⟩)
  else fP
theorem aDA{a b:Int}(ha:In64 a)(hb:In64 b):((Yc a b).2||decide (b=0))=decide (In64 (a+b)):=by
  have hw:wrap64 (a+b)=a+b∧In64 (a+b)∨wrap64 (a+b)=a+b-18446744073709551616∧9223372036854775807<a+b∨wrap64 (a+b)=a+b+18446744073709551616∧a+b < -9223372036854775808:=by
    unfold In64 at *;unfold wrap64;omega
  rw[Bool.eq_iff_iff];simp only[Yc,Bool.or_eq_true,beq_iff_eq,decide_eq_decide,decide_eq_true_eq];generalize wrap64 (a+b)=c at *;unfold In64 at *;omega
theorem aDB{a b:Int}(ha:In64 a)(hb:In64 b):((Yd a b).2||decide (b=0))=decide (In64 (a-b)):=by
  have hw:wrap64 (a-b)=a-b∧In64 (a-b)∨wrap64 (a-b)=a-b-18446744073709551616∧9223372036854775807<a-b∨wrap64 (a-b)=a-b+18446744073709551616∧a-b < -9223372036854775808:=by
    unfold In64 at *;unfold wrap64;omega
  rw[Bool.eq_iff_iff];simp only[Yd,Bool.or_eq_true,beq_iff_eq,decide_eq_decide,decide_eq_true_eq];generalize wrap64 (a-b)=c at *;unfold In64 at *;omega
theorem avn{a b:B}(ha:a.In)(hb:b.In) :
    anU a b=if In64 (a.lo+b.lo)∧In64 (a.hi+b.hi)then⟨a.lo+b.lo,a.hi+b.hi⟩else fP:=by
  unfold anU EF;rw[aDA ha.1 hb.1,aDA ha.2 hb.2];by_cases h1:In64 (a.lo+b.lo)<;>by_cases h2:In64 (a.hi+b.hi)<;>simp[h1,h2,Yc,EH]
theorem avo{a b:B}(ha:a.In)(hb:b.In) :
    anV a b=if In64 (a.lo-b.hi)∧In64 (a.hi-b.lo)then⟨a.lo-b.hi,a.hi-b.lo⟩else fP:=by
  unfold anV EF;rw[aDB ha.1 hb.2,aDB ha.2 hb.1];by_cases h1:In64 (a.lo-b.hi)<;>by_cases h2:In64 (a.hi-b.lo)<;>simp[h1,h2,Yd,EH]
theorem Ud{n:Int}(h:In64 n):fP.Has n:=h
theorem aak:fP.In:=by unfold fP B.In In64;simp
theorem aDC:fP.Ok:=by unfold fP B.Ok In64;simp
theorem Dt{n:Int}(h:In64 n):(eH n).Ok:=⟨h,h,Int.le_refl _⟩
theorem apY{a b n:Int}(ha:In64 a)(hb:In64 b)(h1:a≤n)(h2:n≤b):In64 n:=U3
theorem aLQ{a b:B}{x y:Int}(ha:a.Ok)(hb:b.Ok)(hx:a.Has x)(hy:b.Has y):(anU a b).Has (does 2 x y):=by
  rw[avn ha.in hb.in];unfold B.Has at *;split
  · rename_i h;show _≤wrap64 (x+y)∧wrap64 (x+y)≤_;exact aBk
  · exact Ud (aam _)
theorem aLR{a b:B}{x y:Int}(ha:a.Ok)(hb:b.Ok)(hx:a.Has x)(hy:b.Has y):(anV a b).Has (does 3 x y):=by
  rw[avo ha.in hb.in];unfold B.Has at *;split
  · rename_i h;show _≤wrap64 (x-y)∧wrap64 (x-y)≤_;exact aBk
  · exact Ud (aam _)
theorem aDD{al ah bl bh x y:Int}(h1:al≤x)(h2:x≤ah)(h3:bl≤y)(h4:y≤bh) :
    min (min (min (al*bl) (al*bh)) (ah*bl)) (ah*bh)≤x*y∧x*y≤max (max (max (al*bl) (al*bh)) (ah*bl)) (ah*bh):=by
  have e1:(x*bl≤x*y∧x*y≤x*bh)∨(x*bh≤x*y∧x*y≤x*bl):=by
    by_cases hx:0≤x
    · exact .inl ⟨Int.mul_le_mul_of_nonneg_left h3 hx,Int.mul_le_mul_of_nonneg_left h4 hx⟩
    · exact .inr ⟨Int.mul_le_mul_of_nonpos_left bQ h4,Int.mul_le_mul_of_nonpos_left bQ h3⟩
  have e2:∀ c:Int,(al*c≤x*c∧x*c≤ah*c)∨(ah*c≤x*c∧x*c≤al*c):=by
    intro c;by_cases hc:0≤c
    · exact .inl ⟨Int.mul_le_mul_of_nonneg_right h1 hc,Int.mul_le_mul_of_nonneg_right h2 hc⟩
    · exact .inr ⟨Int.mul_le_mul_of_nonpos_right h2 bQ,Int.mul_le_mul_of_nonpos_right h1 bQ⟩
  have e3:=e2 bl;have e4:=e2 bh;generalize al*bl=p1 at *;generalize al*bh=p2 at *;generalize ah*bl=p3 at *;generalize ah*bh=p4 at *;generalize x*bl=q1 at *;generalize x*bh=q2 at *;generalize x*y=q at *;omega
theorem aji{x y:Int}(h1:-2147483648≤x)(h2:x≤2147483648)(h3:-2147483648≤y)(h4:y≤2147483648):In64 (x*y):=by
  have:=aDD h1 h2 h3 h4;unfold In64;omega
theorem aLS{a b:B}{x y:Int}(hx:a.Has x)(hy:b.Has y):(Oq a b).Has (does 4 x y):=by
  unfold Oq;split
  · rename_i h;simp only[small,Bool.and_eq_true,decide_eq_true_eq]at h;unfold B.Has at *;show _≤wrap64 (x*y)∧wrap64 (x*y)≤_;rw[EH (aji bQ bQ bQ bQ)];exact aDD hx.1 hx.2 hy.1 hy.2
  · exact Ud (aam _)
theorem aDE{a b c d:Int}(h0:0≤a)(h1:a≤b)(h2:0<c)(h3:c≤d):a/d≤b/c:=by
  have h5:a/d*d≤a:=Int.ediv_mul_le a bQ;have h6:0≤a/d:=Int.ediv_nonneg h0 bQ;refine(Int.le_ediv_iff_mul_le h2).2 ?_;have:a/d*c≤a/d*d:=Int.mul_le_mul_of_nonneg_left h3 h6;omega
theorem aLT{c:Int}{a b:B}{x y:Int}(hc:c=5∨c=6)(ha:a.Ok)(hb:b.Ok)(hx:a.Has x)(hy:b.Has y):(bdiv c a b).Has (does c x y):=by
  refine anq ?_;intro hxi hyi;unfold bdiv;split
  · exact Ud (Yx hxi hyi)
  · rename_i hp;unfold B.Has at *;have hx0:u x=x:=VT hxi bQ;have hy0:u y=y:=VT hyi bQ;have hdi:y≠0→0≤x/y∧x/y≤x:=fun hy1=>⟨Int.ediv_nonneg bQ bQ,Int.ediv_le_self _ bQ⟩;have hmo:y≠0→0≤x%y∧x%y<y:=fun hy1=>⟨Int.emod_nonneg _ hy1,Int.emod_lt_of_pos _ bQ⟩;have hmx:y≠0→x%y≤x:=fun hy1=>by
      have h1:=Int.mul_ediv_add_emod x y;have h2:0≤y*(x/y):=Int.mul_nonneg bQ (hdi hy1).1;omega
    rcases hc with rfl|rfl
    · show(if b.lo=0 then(⟨0,a.hi⟩:B)else if(5:Int)=5 then⟨a.lo/b.hi,a.hi/b.lo⟩else⟨0,min a.hi (b.hi-1)⟩).lo≤(if u y=0 then 0 else wrap64 (u x/u y)) ∧
        (if u y=0 then 0 else wrap64 (u x/u y))≤(if b.lo=0 then(⟨0,a.hi⟩:B)else if(5:Int)=5 then⟨a.lo/b.hi,a.hi/b.lo⟩else⟨0,min a.hi (b.hi-1)⟩).hi
      rw[hx0,hy0];by_cases h0:y=0
      · rw[dB h0,dB bQ];exact⟨Int.le_refl 0,show 0≤a.hi by omega⟩
      · have hd:=hdi h0;rw[dw h0,EH U3];by_cases hl:b.lo=0
        · rw[dB hl];exact⟨hd.1,show _≤a.hi by omega⟩
        · rw[dw hl,dB rfl];exact⟨aDE bQ hx.1 bQ hy.2,aDE bQ hx.2 bQ hy.1⟩
    · show(if b.lo=0 then(⟨0,a.hi⟩:B)else if(6:Int)=5 then⟨a.lo/b.hi,a.hi/b.lo⟩else⟨0,min a.hi (b.hi-1)⟩).lo≤(if u y=0 then x else wrap64 (u x%u y)) ∧
        (if u y=0 then x else wrap64 (u x%u y))≤(if b.lo=0 then(⟨0,a.hi⟩:B)else if(6:Int)=5 then⟨a.lo/b.hi,a.hi/b.lo⟩else⟨0,min a.hi (b.hi-1)⟩).hi
      rw[hx0,hy0];by_cases h0:y=0
      · rw[dB h0,dB bQ];exact⟨show 0≤x by omega,hx.2⟩
      · have hm:=hmo h0;have hm2:=hmx h0;rw[dw h0,EH U3];by_cases hl:b.lo=0
        · rw[dB hl];exact⟨hm.1,show _≤a.hi by omega⟩
        · rw[dw hl,dw dS];exact⟨hm.1,show _≤min a.hi (b.hi-1)by omega⟩
theorem and_le_left{x y:Int}(hx:In64 x)(h0:0≤x):0≤bits .and .i64 x y∧bits .and .i64 x y≤x:=by
  rw[amw,VT hx h0];have h1:(x.toNat&&&(u y).toNat)≤x.toNat:=Nat.and_le_left;have h2:((x.toNat&&&(u y).toNat:Nat):Int)≤x:=bQ;rw[EH U3];exact⟨by omega,h2⟩
theorem aLU(x y:Int):bits .and .i64 x y=bits .and .i64 y x:=by
  rw[amw,amw,Nat.and_comm]
theorem and_le_right{x y:Int}(hy:In64 y)(h0:0≤y):0≤bits .and .i64 x y∧bits .and .i64 x y≤y:=by
  rw[aLU];exact and_le_left hy h0
theorem arw{x h:Int}(h1:x≤h)(h0:0<h):x.toNat<2^bitLen h.toNat:=by
  have:=(bitLen_spec h.toNat).1;omega
theorem aIN{h:Int}{n:Nat}(h0:0<h)(hn:n<2^bitLen h.toNat):(n:Int)≤fill h:=by
  unfold fill;rw[dw bQ];have:((2:Int)^bitLen h.toNat)=((2^bitLen h.toNat:Nat):Int):=by push_cast;rfl
  omega
theorem aLV{x y h:Int}(hx:In64 x)(hy:In64 y)(hh:In64 h)(x0:0≤x)(y0:0≤y)(xh:x≤h)(yh:y≤h) :
    max x y≤bits .or .i64 x y∧bits .or .i64 x y≤fill h:=by
  rw[ayq,VT hx x0,VT hy y0];have hl1:x.toNat≤(x.toNat|||y.toNat):=Nat.left_le_or;have hl2:y.toNat≤(x.toNat|||y.toNat):=Nat.right_le_or;by_cases h0:h=0
  · exact aAI
  · have hpos:0<h:=by omega
    have h1:=Nat.or_lt_two_pow (arw xh hpos) (arw yh hpos);exact aBv
theorem aLW{x y h:Int}(hx:In64 x)(hy:In64 y)(hh:In64 h)(x0:0≤x)(y0:0≤y)(xh:x≤h)(yh:y≤h) :
    0≤bits .xor .i64 x y∧bits .xor .i64 x y≤fill h:=by
  rw[ayr,VT hx x0,VT hy y0];by_cases h0:h=0
  · exact aAI
  · have hpos:0<h:=by omega
    have h1:=Nat.xor_lt_two_pow (arw xh hpos) (arw yh hpos);exact aBv
theorem aLX{c:Int}{a b:B}{x y:Int}(hc:c=7∨c=8∨c=9)(ha:a.Ok)(hb:b.Ok)(hx:a.Has x)(hy:b.Has y):(sQ c a b).Has (does c x y):=by
  refine anq ?_;intro hxi hyi;have hmax:In64 (max a.hi b.hi):=by have:=ha.2.1;have:=hb.2.1;unfold In64 at *;omega
  unfold B.Has at hx hy;unfold sQ;by_cases c1:c=7∧0≤a.lo∧0≤b.lo
  · rw[dB c1];obtain⟨rfl,ha0,hb0⟩:=c1;have h1:=and_le_left (y:=y) hxi bQ;have h2:=and_le_right (x:=x) hyi bQ;show 0≤bits .and .i64 x y∧bits .and .i64 x y≤min a.hi b.hi;omega
  rw[dw c1];by_cases c2:c=7∧0≤a.lo
  · rw[dB c2];obtain⟨rfl,ha0⟩:=c2;have h1:=and_le_left (y:=y) hxi bQ;show 0≤bits .and .i64 x y∧bits .and .i64 x y≤a.hi;omega
  rw[dw c2];by_cases c3:c=7∧0≤b.lo
  · rw[dB c3];obtain⟨rfl,hb0⟩:=c3;have h2:=and_le_right (x:=x) hyi bQ;show 0≤bits .and .i64 x y∧bits .and .i64 x y≤b.hi;omega
  rw[dw c3];by_cases c4:c=7∨a.lo<0∨b.lo<0
  · rw[dB c4];exact Ud (Yx hxi hyi)
  rw[dw c4];by_cases c5:c=8
  · rw[dB c5];subst c5;have:=aLV hxi hyi hmax bQ bQ bQ bQ;show max a.lo b.lo≤bits .or .i64 x y∧bits .or .i64 x y≤fill (max a.hi b.hi);omega
  · rw[dw c5];have c6:c=9:=bQ;subst c6;exact aLW hxi hyi hmax bQ bQ bQ bQ
theorem arx{a b:Int}(h:a≤b)(k:Nat):a/2^k≤b/2^k:=Int.ediv_le_ediv (pow_pos k) h
theorem aLY{a:B}{x:Int}{k:Nat}(hk:k<64)(hx:a.Has x):(KY a k).Has (wrap64 (u x*2^k)):=by
  unfold KY;split
  · exact Ud (aam _)
  · rename_i h;have hp:=pow_pos k;have aPx:(2:Int)^k≤9223372036854775808:=aef hk;have h1:wrap64 (a.lo*2^k)=a.lo*2^k:=by
      have e1:wrap64 (a.lo*2^k)/2^k*2^k≤wrap64 (a.lo*2^k):=Int.ediv_mul_le _ bQ;have e2:wrap64 (a.lo*2^k)<(wrap64 (a.lo*2^k)/2^k+1)*2^k:=Int.lt_ediv_add_one_mul_self _ hp;rw[show wrap64 (a.lo*2^k)/2^k=a.lo by omega]at e1 e2;rw[Int.add_mul,Int.one_mul]at e2;have e3:∃ q,wrap64 (a.lo*2^k)-a.lo*2^k=q*18446744073709551616:=by
        refine⟨-((a.lo*2^k+9223372036854775808)/18446744073709551616),?_⟩;unfold wrap64;omega
      obtain⟨q,hq⟩:=e3;omega
    have h2:wrap64 (a.hi*2^k)=a.hi*2^k:=by
      have e1:wrap64 (a.hi*2^k)/2^k*2^k≤wrap64 (a.hi*2^k):=Int.ediv_mul_le _ bQ;have e2:wrap64 (a.hi*2^k)<(wrap64 (a.hi*2^k)/2^k+1)*2^k:=Int.lt_ediv_add_one_mul_self _ hp;rw[show wrap64 (a.hi*2^k)/2^k=a.hi by omega]at e1 e2;rw[Int.add_mul,Int.one_mul]at e2;have e3:∃ q,wrap64 (a.hi*2^k)-a.hi*2^k=q*18446744073709551616:=by
        refine⟨-((a.hi*2^k+9223372036854775808)/18446744073709551616),?_⟩;unfold wrap64;omega
      obtain⟨q,hq⟩:=e3;omega
    have e:wrap64 (u x*2^k)=wrap64 (x*2^k):=akv (by rw[asT]);have l1:a.lo*2^k≤x*2^k:=Int.mul_le_mul_of_nonneg_right hx.1 bQ;have l2:x*2^k≤a.hi*2^k:=Int.mul_le_mul_of_nonneg_right hx.2 bQ;have w1:=aam (a.lo*2^k);have w2:=aam (a.hi*2^k);rw[h1]at w1 ⊢;rw[h2]at w2 ⊢;rw[e,EH (apY w1 w2 l1 l2)];exact⟨l1,l2⟩
theorem aLZ{a b:B}{x y:Int}(ha:a.Ok)(hb:b.Ok)(hx:a.Has x)(hy:b.Has y):(Fp a b).Has (does 11 x y):=by
  refine anq ?_;intro hxi hyi;have hne:∀ k:Nat,0≤x→0≤x/2^k∧x/2^k≤x:=fun k h0=>⟨Int.ediv_nonneg h0 (by have:=pow_pos k;omega),Int.ediv_le_self _ h0⟩;unfold Fp;split
  · split
    · rename_i h0;unfold B.Has at *;have h1:=hne (sh y) bQ;show 0≤wrap64 (u x/2^sh y)∧wrap64 (u x/2^sh y)≤a.hi;rw[VT hxi bQ,EH U3];omega
    · exact Ud (Yx hxi hyi)
  · rename_i he;have ey:y=b.lo:=aqo;subst ey;split
    · rename_i h0;show a.Has (wrap64 (u x/2^sh b.lo));rw[h0,Int.pow_zero,Int.ediv_one,adO,EH hxi];exact hx
    · rename_i hk;split
      · rename_i h0;have h1:=hne (sh b.lo) (by unfold B.Has at hx;omega);show _≤wrap64 (u x/2^sh b.lo)∧wrap64 (u x/2^sh b.lo)≤_;rw[VT hxi (by unfold B.Has at hx;omega),EH (by unfold In64 at *;unfold B.Has at hx;omega)];exact⟨arx hx.1 _,arx hx.2 _⟩
      · have hk':=adw b.lo;show 0≤wrap64 (u x/2^sh b.lo)∧wrap64 (u x/2^sh b.lo)≤9223372036854775807/2^(sh b.lo-1);generalize sh b.lo=k at *;have hp:=pow_pos (k-1);have ep:(2:Int)^k=2*2^(k-1):=by
          conv=>lhs;rw[show k=(k-1)+1 by omega]
          rw[Int.pow_succ];omega
        have h1:u x/2^k=u x/2/2^(k-1):=by rw[ep,Int.ediv_ediv_of_nonneg bQ]
        have h2:u x/2/2^(k-1)≤9223372036854775807/2^(k-1):=Int.ediv_le_ediv hp (by have:=adP x;omega);have h3:(9223372036854775807:Int)/2^(k-1)≤9223372036854775807:=Int.ediv_le_self _ bQ;have h4:0≤u x/2/2^(k-1):=Int.ediv_nonneg (by have:=VQ x;omega) bQ;rw[h1,EH aaq];exact⟨h4,h2⟩
theorem aL0{a b:B}{x y:Int}(hx:a.Has x)(hy:b.Has y):(Ir a b).Has (does 12 x y):=by
  unfold Ir;have hne:∀ k:Nat,0≤x→0≤x/2^k∧x/2^k≤x:=fun k h0=>⟨Int.ediv_nonneg h0 (by have:=pow_pos k;omega),Int.ediv_le_self _ h0⟩;have hng:∀ k:Nat,x<0→x/2^k<0∧x≤x/2^k:=fun k h0=>by
    have hp:=pow_pos k;have h1:x<(x/2^k+1)*2^k:=Int.lt_ediv_add_one_mul_self x hp;have h2:x/2^k*2^k≤x:=Int.ediv_mul_le x bQ;have h3:x/2^k<0:=Int.ediv_neg_of_neg_of_pos h0 hp;refine⟨h3,?_⟩;refine(Int.le_ediv_iff_mul_le hp).2 ?_;have:=Int.mul_le_mul_of_nonpos_left (a:=x) (b:=2^k) (c:=1) bQ bQ;omega
  split
  · rename_i he;have ey:y=b.lo:=aqo;subst ey;exact⟨arx hx.1 _,arx hx.2 _⟩
  · unfold B.Has at *;show _≤x/2^sh y∧x/2^sh y≤_;have h1:=hne (sh y);have h2:=hng (sh y);by_cases h0:0≤a.lo
    · rw[dB h0];have:=h1 bQ;exact⟨this.1,show _≤a.hi by omega⟩
    · rw[dw h0];by_cases h3:a.hi<0
      · rw[dB h3];have:=h2 bQ;exact⟨show a.lo≤_ by omega,show _≤-1 by omega⟩
      · rw[dw h3];by_cases h4:0≤x
        · have:=h1 h4;omega
        · have:=h2 bQ;omega
theorem aoO{c:Int}{a b:B}{x y:Int}(ha:a.Ok)(hb:b.Ok)(hx:a.Has x)(hy:b.Has y):(dV c a b).Has (does c x y):=by
  refine anq ?_;intro hxi hyi;unfold dV;by_cases h1:c=1
  · subst h1;exact hy
  rw[dw h1];by_cases h2:c=2
  · subst h2;exact aLQ ha hb hx hy
  rw[dw h2];by_cases h3:c=3
  · subst h3;exact aLR ha hb hx hy
  rw[dw h3];by_cases h4:c=4
  · subst h4;exact aLS hx hy
  rw[dw h4];by_cases h5:c=5∨c=6
  · rw[dB h5];exact aLT h5 ha hb hx hy
  rw[dw h5];by_cases h7:c=7∨c=8∨c=9
  · rw[dB h7];exact aLX h7 ha hb hx hy
  rw[dw h7];by_cases h10:c=10
  · subst h10;rw[dB rfl];by_cases hk:b.lo=b.hi
    · rw[dw (by simpa using hk)];have ey:y=b.lo:=aqo;subst ey;exact aLY (adw _) hx
    · rw[dB hk];exact Ud (Yx hxi hyi)
  rw[dw h10];by_cases h11:c=11
  · subst h11;exact aLZ ha hb hx hy
  rw[dw h11];by_cases h12:c=12
  · subst h12;exact aL0 hx hy
  rw[dw h12];by_cases h13:c=13
  · subst h13;rw[dB rfl];by_cases hm:a.lo=-9223372036854775808
    · rw[dB hm];exact Ud (Yx hxi hyi)
    · rw[dw hm];show -a.hi≤wrap64 (-x)∧wrap64 (-x)≤-a.lo;have h1:=ha.1;unfold B.Has at hx;rw[EH U3];omega
  rw[dw h13];exact Ud (Yx hxi hyi)
def pG(a b:B)(same:Bool):B × B × Bool :=
  if same=false∧(b.lo=9223372036854775807∨a.hi=-9223372036854775808)then(kK,kK,false)else
  let low:=if same then b.lo else b.lo+1
  let high:=if same then a.hi else a.hi-1
  if !(ji a ⟨low,9223372036854775807⟩).2||!(ji b ⟨-9223372036854775808,high⟩).2 then(kK,kK,false)
  else((ji a ⟨low,9223372036854775807⟩).1,(ji b ⟨-9223372036854775808,high⟩).1,true)
def lS(a b:B):B :=
  if b.lo=b.hi∧a.lo<a.hi then(if a.lo=b.lo then⟨a.lo+1,a.hi⟩else if a.hi=b.lo then⟨a.lo,a.hi-1⟩else a)else a
def Nz(a b:B):B × B × Bool:=if a.lo=a.hi∧a=b then(kK,kK,false)else(lS a b,lS b a,true)
def BF(x:B × B × Bool):B × B × Bool:=(x.2.1,x.1,x.2.2)
def zD(a b:B)(same:Bool):B × B × Bool :=
  if b.lo<0 then(a,b,true)
  else if(ji a ⟨0,9223372036854775807⟩).2=false then(kK,kK,false)
  else BF (pG b (ji a ⟨0,9223372036854775807⟩).1 same)
def eX(c:Int)(a b:B):B × B × Bool :=
  if c=15 then((ji a b).1,(ji a b).1,(ji a b).2)
  else if c=16 then Nz a b
  else if c=21∨c=22 then pG a b (decide (c=22))
  else if c=23∨c=24 then BF (pG b a (decide (c=24)))
  else if c=19∨c=20 then zD a b (decide (c=20))
  else if c=17∨c=18 then BF (zD b a (decide (c=18)))
  else(a,b,true)
def NU(c:Int):Int :=
  if c=15 then 16 else if c=16 then 15 else if c=17 then 20 else if c=18 then 19 else if c=19 then 18 else if c=20 then 17
  else if c=21 then 24 else if c=22 then 23 else if c=23 then 22 else if c=24 then 21 else 0
theorem atJ{c:Int}(h:asks c=true):c=15∨c=16∨c=17∨c=18∨c=19∨c=20∨c=21∨c=22∨c=23∨c=24:=by
  simp only[asks,Bool.and_eq_true,decide_eq_true_eq]at h;omega
theorem aw2{c:Int}(h:asks c=true)(x y:Int):is (NU c) x y=!is c x y:=by
  rcases atJ h with h|h|h|h|h|h|h|h|h|h<;>subst h<;>simp[NU,is]
  all_goals (rw[Bool.eq_iff_iff];simp;try omega)
theorem akN{a b:B}{x:Int}(h1:a.Has x)(h2:b.Has x):(ji a b).2=true∧(ji a b).1.Has x:=by
  unfold B.Has at *;unfold ji;rw[dw bQ];exact⟨rfl,show _≤x by simp only;omega,show x≤_ by simp only;omega⟩
theorem aDF{a b:B}(h:(ji a b).2=true):(ji a b).1=⟨max a.lo b.lo,min a.hi b.hi⟩∧max a.lo b.lo≤min a.hi b.hi:=by
  unfold ji at *;split at h
  · exact absurd h dS
  · rename_i h1;exact⟨by rw[dw h1],by omega⟩
theorem aAB{a b:B}(ha:a.In)(hb:b.In)(h:(ji a b).2=true):(ji a b).1.Ok:=by
  obtain⟨e,hl⟩:=aDF h;rw[e];unfold B.In In64 at *;unfold B.Ok In64;simp only;omega
theorem avF{a b:B}{x y:Int}{same:Bool}(ha:a.Ok)(hb:b.Ok)(hx:a.Has x)(hy:b.Has y)(h:if same then x≥y else x>y) :
    (pG a b same).2.2=true∧(pG a b same).1.Has x∧(pG a b same).2.1.Has y:=by
  obtain⟨⟨a1,a2⟩,⟨a3,a4⟩,a5⟩:=ha;obtain⟨⟨b1,b2⟩,⟨b3,b4⟩,b5⟩:=hb;have hx':=hx;have hy':=hy;unfold B.Has at hx hy;unfold pG;cases same with
  |true =>
    simp only[if_true]at h;have m1:(ji a ⟨b.lo,9223372036854775807⟩).2=true∧(ji a ⟨b.lo,9223372036854775807⟩).1.Has x:=akN hx' ⟨show b.lo≤x by omega,show x≤9223372036854775807 by omega⟩;have m2:(ji b ⟨-9223372036854775808,a.hi⟩).2=true∧(ji b ⟨-9223372036854775808,a.hi⟩).1.Has y:=akN hy' ⟨show -9223372036854775808≤y by omega,show y≤a.hi by omega⟩;simp[m1,m2]
  |false =>
    simp only[Bool.false_eq_true,if_false]at h;have m1:(ji a ⟨b.lo+1,9223372036854775807⟩).2=true∧(ji a ⟨b.lo+1,9223372036854775807⟩).1.Has x:=akN hx' ⟨show b.lo+1≤x by omega,show x≤9223372036854775807 by omega⟩;have m2:(ji b ⟨-9223372036854775808,a.hi-1⟩).2=true∧(ji b ⟨-9223372036854775808,a.hi-1⟩).1.Has y:=akN hy' ⟨show -9223372036854775808≤y by omega,show y≤a.hi-1 by omega⟩;have e1:b.lo≠9223372036854775807:=bQ;have e2:a.hi≠-9223372036854775808:=bQ;simp[m1,m2,e1,e2]
theorem aDG{a b:B}{x y:Int}(hx:a.Has x)(hy:b.Has y)(h:x≠y):(lS a b).Has x:=by
  unfold lS;unfold B.Has at *;split
  · split
    · exact⟨show _+1≤x by omega,hx.2⟩
    · split
      · exact⟨hx.1,show x≤_-1 by omega⟩
      · exact hx
  · exact hx
theorem aDH{a b:B}{x y:Int}{same:Bool}(ha:a.Ok)(hb:b.Ok)(hx:a.Has x)(hy:b.Has y)(h:if same then u x≤u y else u x<u y) :
    (zD a b same).2.2=true∧(zD a b same).1.Has x∧(zD a b same).2.1.Has y:=by
  refine anq ?_;intro hxi hyi;unfold zD;split
  · exact⟨rfl,hx,hy⟩
  · rename_i h0;have hy0:u y=y:=VT hyi aqo;have hx0:0≤x:=by
      by_cases hn:x<0
      · have e:=aL1 hxi hn;rw[e,hy0]at h;unfold In64 at *;cases same<;>simp at h<;>omega
      · omega
    have hux:u x=x:=VT hxi hx0;rw[hux,hy0]at h;have m:=akN hx (show(B.mk 0 9223372036854775807).Has x from⟨hx0,hxi.2⟩);have mo:=aAB ha.in (show(B.mk 0 9223372036854775807).In from by unfold B.In In64;simp) m.1;rw[dw (by rw[m.1];decide)];have r:=avF (a:=b) (b:=(ji a ⟨0,9223372036854775807⟩).1) (same:=same) hb mo hy m.2 (by cases same<;>simpa using h);exact⟨r.1,r.2.2,r.2.1⟩
theorem aso{c:Int}{a b:B}{x y:Int}(ha:a.Ok)(hb:b.Ok)(hx:a.Has x)(hy:b.Has y)(h:is c x y=true) :
    (eX c a b).2.2=true∧(eX c a b).1.Has x∧(eX c a b).2.1.Has y:=by
  unfold eX;by_cases h15:c=15
  · subst h15;have e:x=y:=by simpa[is]using h
    subst e;have m:=akN hx hy;exact⟨m.1,m.2,m.2⟩
  rw[dw h15];by_cases h16:c=16
  · subst h16;have e:x≠y:=by simpa[is]using h
    rw[dB rfl];unfold Nz;rw[dw]
    · exact⟨rfl,aDG hx hy e,aDG hy hx (fun e'=>e e'.symm)⟩
    · rintro ⟨h1,rfl⟩;unfold B.Has at hx hy;omega
  rw[dw h16];by_cases h21:c=21∨c=22
  · rw[dB h21];refine avF ha hb hx hy ?_;rcases h21 with h'|h'<;>subst h'<;>simpa[is]using h
  rw[dw h21];by_cases h23:c=23∨c=24
  · rw[dB h23];have r:=avF (same:=decide (c=24)) hb ha hy hx (by rcases h23 with h'|h'<;>subst h'<;>simpa[is]using h);exact⟨r.1,r.2.2,r.2.1⟩
  rw[dw h23];by_cases h19:c=19∨c=20
  · rw[dB h19];refine aDH ha hb hx hy ?_;rcases h19 with h'|h'<;>subst h'<;>simpa[is]using h
  rw[dw h19];by_cases h17:c=17∨c=18
  · rw[dB h17];have r:=aDH (same:=decide (c=18)) hb ha hy hx (by rcases h17 with h'|h'<;>subst h'<;>simpa[is]using h);exact⟨r.1,r.2.2,r.2.1⟩
  rw[dw h17];exact⟨rfl,hx,hy⟩
def B.Le(p a:B):Prop:=p.lo≤p.hi∧a.lo≤p.lo∧p.hi≤a.hi
theorem B.Le.ok{p a:B}(h:p.Le a)(ha:a.Ok):p.Ok:=by
  unfold B.Le at h;unfold B.Ok In64 at *;omega
theorem B.Le.trans{p q a:B}(h:p.Le q)(h':q.Le a):p.Le a:=by unfold B.Le at *;omega
theorem B.le_refl{a:B}(h:a.Ok):a.Le a:=⟨h.2.2,Int.le_refl _,Int.le_refl _⟩
theorem arz{a b:B}(h:(ji a b).2=true):(ji a b).1.Le a∧(ji a b).1.Le b:=by
  obtain⟨e,hl⟩:=aDF h;rw[e];unfold B.Le;simp only;omega
theorem avG{a b:B}{same:Bool}(h:(pG a b same).2.2=true):(pG a b same).1.Le a∧(pG a b same).2.1.Le b:=by
  unfold pG at *;by_cases h1:same=false∧(b.lo=9223372036854775807∨a.hi=-9223372036854775808)
  · rw[dB h1]at h;exact absurd h dY
  · rw[dw h1]at h ⊢;generalize (if same=true then b.lo else b.lo+1)=low at *;generalize (if same=true then a.hi else a.hi-1)=high at *;by_cases h2:(!(ji a ⟨low,9223372036854775807⟩).2||!(ji b ⟨-9223372036854775808,high⟩).2)=true
    · simp only at h;rw[dB h2]at h;exact absurd h dY
    · simp only;rw[dw h2];simp only[Bool.or_eq_true,Bool.not_eq_true',not_or,Bool.not_eq_false]at h2;exact⟨(arz h2.1).1,(arz h2.2).1⟩
theorem aDI{a b:B}(ha:a.Ok):(lS a b).Le a:=by
  unfold lS B.Le;have:=ha.2.2;split
  · split
    · simp only;omega
    · split
      · simp only;omega
      · omega
  · omega
theorem aDJ{a b:B}{same:Bool}(ha:a.Ok)(hb:b.Ok)(h:(zD a b same).2.2=true):(zD a b same).1.Le a∧(zD a b same).2.1.Le b:=by
  unfold zD at *;split at h
  · rename_i h0;rw[dB h0];exact⟨B.le_refl ha,B.le_refl hb⟩
  · rename_i h0;rw[dw h0];split at h
    · exact absurd h dY
    · rename_i h1;rw[dw h1];have r:=avG h;exact⟨r.2.trans (arz (by simpa using h1)).1,r.1⟩
theorem aDK{c:Int}{a b:B}(ha:a.Ok)(hb:b.Ok)(h:(eX c a b).2.2=true):(eX c a b).1.Le a∧(eX c a b).2.1.Le b:=by
  unfold eX at *;by_cases h15:c=15
  · rw[dB h15]at h ⊢;exact arz h
  rw[dw h15]at h ⊢;by_cases h16:c=16
  · rw[dB h16]at h ⊢;unfold Nz at *;split at h
    · exact absurd h dY
    · rename_i h1;rw[dw h1];exact⟨aDI ha,aDI hb⟩
  rw[dw h16]at h ⊢;by_cases h21:c=21∨c=22
  · rw[dB h21]at h ⊢;exact avG h
  rw[dw h21]at h ⊢;by_cases h23:c=23∨c=24
  · rw[dB h23]at h ⊢;have r:=avG h;exact⟨r.2,r.1⟩
  rw[dw h23]at h ⊢;by_cases h19:c=19∨c=20
  · rw[dB h19]at h ⊢;exact aDJ ha hb h
  rw[dw h19]at h ⊢;by_cases h17:c=17∨c=18
  · rw[dB h17]at h ⊢;have r:=aDJ hb ha h;exact⟨r.2,r.1⟩
  rw[dw h17]at h ⊢;exact⟨B.le_refl ha,B.le_refl hb⟩
theorem aL2{a b:B}(ha:a.Ok)(hb:b.Ok):(wU a b).Ok:=by
  unfold wU;unfold B.Ok In64 at *;simp only;omega
end Go.Proofs.YtglilddlhibogaaGreatDoor.P
