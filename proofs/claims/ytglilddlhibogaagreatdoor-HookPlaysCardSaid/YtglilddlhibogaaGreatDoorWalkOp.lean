/- A part of the proof; each theorem states its conditions. -/
import Derived.Test.YtglilddlhibogaaGreatDoorPost
import Derived.Test.YtglilddlhibogaaGreatDoorPureOp
import Derived.WalkKit
import Derived.Lib.ItoaNum
set_option linter.unusedSimpArgs false
set_option linter.unusedVariables false
set_option maxRecDepth 100000
set_option maxHeartbeats 100000000
namespace Go.Proofs.YtglilddlhibogaaGreatDoor.W
open Go.RowKit Go.Proofs.YtglilddlhibogaaGreatDoor.P
theorem acE{k:IntKind}{a b:Int}(h:a=b):Ending.returned (.int k a)=.returned (.int k b):=by rw[h]
theorem aap{a b:Bool}(h:a=b):Ending.returned (.bool a)=.returned (.bool b):=by rw[h]
theorem wrap_u64(x:Int):IntKind.u64.wrap x=u x:=IntKind.wrap_u64 x
theorem adK(x:Int):wrap64 (IntKind.u64.wrap x)=wrap64 x:=by rw[wrap_u64];exact adO x
theorem aFx(x:Int):bits .and .u64 (u x) 63=(sh x:Int):=by
 have h:=bits_and_u64_nat (u x).toNat 63 (by have:=adP x;have:=VQ x;omega) dS;rw[Int.toNat_of_nonneg (VQ x)]at h;have h2:(u x).toNat&&&63=(u x).toNat%64:=by exact Nat.and_two_pow_sub_one_eq_mod (u x).toNat 6
 rw[show((63:Nat):Int)=63 from rfl]at h;rw[h,h2];unfold sh;rw[←alb x];have:=VQ x;omega
theorem aFy(c a b:Int)(w:World) :
  Calls Tryz.prog 120 #[aU c,aU a,aU b] w fun e w'=>e=.returned (aU (P.does c a b))∧w=w':=by
 have e1:=wrap_u64 a;have e2:=wrap_u64 b;have e3:=aFx b;refine aoE ?_;intro b1 b2 b3 b4;have b5:(0:Int)≤(sh b:Int):=bQ;have b6:(sh b:Int)≤64:=alc;by_cases hz:u b=0
 ·have hz1:(u b==0)=true:=by simp[hz]
  have HZ:=bW hz;clear hz;go_enter Tryz.func120,Tryz.ntmps120;go_wp2;all_goals (go_ret;refine⟨acE ?_,rfl⟩;clear e1 e2 e3 b1 b2 b3 b4 b5 b6 hz1;have hz:=HZ.out;clear HZ;simp only[beq_iff_eq,beq_eq_false_iff_ne,ne_eq]at *;simp[P.does,adK, *])
 ·go_enter Tryz.func120,Tryz.ntmps120;go_wp2;all_goals (go_ret;refine⟨acE ?_,rfl⟩;clear e1 e2 e3 b1 b2 b3 b4 b5 b6;simp only[beq_iff_eq,beq_eq_false_iff_ne,ne_eq]at *;simp[P.does,adK, *])
theorem aFz(c a b:Int)(w:World) :
  Calls Tryz.prog 118 #[aU c,aU a,aU b] w fun e w'=>e=.returned (.bool (P.is c a b))∧w=w':=by
 have e1:=wrap_u64 a;have e2:=wrap_u64 b;go_enter Tryz.func118,Tryz.ntmps118;go_wp2;all_goals (go_ret;refine⟨aap ?_,rfl⟩;clear e1 e2;simp only[beq_iff_eq,beq_eq_false_iff_ne,ne_eq]at *;simp[P.is, *])
 all_goals (rw[Bool.eq_iff_iff];simp)
theorem aFA{x:Nat}(h0:x≠0)(h:x<2^64):Lib.bitLen x=bitLen x:=by
 obtain⟨h1,h2,h3⟩:=Lib.bitLenAux_bounds 64 x h h0;have h4:=bitLen_spec x;have h5:=h4.2 h0;have h6:1≤bitLen x:=by unfold bitLen;rw[dw h0];omega
 show Lib.bitLenAux 64 x=bitLen x;generalize Lib.bitLenAux 64 x=k at *;generalize bitLen x=m at *;rcases Nat.lt_trichotomy k m with hl|hl|hl
 ·have:=Nat.pow_le_pow_right (n:=2) dS (show k≤m-1 by omega);omega
 ·exact hl
 ·have:=Nat.pow_le_pow_right (n:=2) dS (show m≤k-1 by omega);omega
theorem aee(n:Int)(hn:In64 n)(w:World) :
  Calls Tryz.prog 207 #[aU n] w fun e w'=>e=.returned (aU (P.fill n))∧w=w':=by
 by_cases h0:n≤0
 ·go_enter Tryz.func207,Tryz.ntmps207;go_wp2_with fail;go_ret
  exact⟨acE (by unfold P.fill;rw[dB h0]),rfl⟩
 ·have e1:IntKind.u64.wrap n=n:=by rw[wrap_u64,VT hn bQ]
  have hl:=aFB hn;have hs:Lib.bitLen n.toNat=bitLen n.toNat:=aFA bQ (by unfold In64 at hn;omega);have l1:n≤18446744073709551615:=by unfold In64 at hn;omega
  have l0:0≤n:=bQ;have HN:=bW hn;have HS:=bW hs;clear hn hs;go_enter Tryz.func207,Tryz.ntmps207;go_wp2_with fail;refine(Tryz.bits_Len64 _ _ l0 l1).mono ?_;rintro e w' ⟨rfl,rfl⟩;rw[HS.out];generalize hk:bitLen n.toNat=k at *;have HK:=bW hk;clear hk HS;have k0:(0:Int)≤(k:Int):=bQ;have k1:(k:Int)≤64:=bQ;go_wp2_with fail;go_ret
  refine⟨acE ?_,rfl⟩;have e2:P.fill n=2^k-1:=by unfold P.fill;rw[dw bQ,HK.out]
  have hp:=pow_pos k;have hp2:=aef (show k<64 by omega);rw[e2,wrap_u64,adO,wrap_u64];rw[show u (2^k)=2^k from by unfold u;omega];exact EH aaq
end Go.Proofs.YtglilddlhibogaaGreatDoor.W
