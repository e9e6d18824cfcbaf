/- A part of the proof; each theorem states its conditions. -/
import Derived.Test.YtglilddlhibogaaGreatDoorImg
import Derived.Test.YtglilddlhibogaaGreatDoorWalkOp
import Derived.Test.YtglilddlhibogaaGreatDoorZZ3
set_option linter.unusedSimpArgs false
set_option linter.unusedVariables false
set_option maxRecDepth 100000
set_option maxHeartbeats 100000000
namespace Go.Proofs.YtglilddlhibogaaGreatDoor.W
open Go.RowKit Go.Proofs.YtglilddlhibogaaGreatDoor.P
theorem aBT(n:Int)(hn:In64 n)(w:World) :
  Calls Tryz.prog 179 #[aU n] w fun e w'=>e=.returned (aU (P.fill n))∧w=w':=by
 have n1:n≤9223372036854775807:=hn.2;clear hn;go_enter Tryz.func179,Tryz.ntmps179;go_wp2_with fail;go_loop [3] (fun f=>∃ i:Nat,i≤63∧f=aU (2^i-1)∧(1≤i→2^(i-1)-1<n)) (fun f=>(n-intOf f).toNat)
 case atStart=>exact⟨0,by omega,rfl,by omega⟩
 case round =>
  obtain⟨i,hi,rfl,hl⟩:=hrel;have hp:=pow_pos i;have hq:=aef (show i<64 by omega);have HL:=bW hl;clear hl;by_cases h:2^i-1<n
  ·have hi2:i<63:=by
    by_cases e:i=63
    ·subst e;have:(2:Int)^63=9223372036854775808:=dS;omega
    ·omega
   have hq2:=aef (show i+1<64 by omega);rw[Int.pow_succ]at hq2;go_wp2_with fail;go_round
   case rel=>exact⟨i+1,by omega,by rw[Int.pow_succ];go_num,fun _=>h⟩
   case measure=>simp[intOf];omega
  ·go_wp2_with fail;go_ret
   exact⟨acE (aHi bQ HL.out).symm,rfl⟩
theorem aBU{x:Int}(h:x%2=0):x.tdiv 2=x/2:=by
 obtain⟨q,rfl⟩:∃ q,x=2*q:=⟨x/2,by omega⟩;rw[Int.mul_tdiv_cancel_left _ dS];omega
theorem aIP{x:Int}(h:x%2=0):x.tmod 2=0:=by
 have:=Int.mul_tdiv_add_tmod x 2;rw[aBU h]at this;omega
theorem aIQ{x:Int}(h0:x<0)(h:¬x%2=0):x.tdiv 2=x/2+1:=by
 obtain⟨q,rfl⟩:∃ q,x=-q:=⟨-x,by omega⟩;rw[Int.neg_tdiv,Int.tdiv_eq_ediv_of_nonneg bQ];omega
theorem aIR{x:Int}(h:¬x%2=0):x.tmod 2≠0:=by
 have:=Int.mul_tdiv_add_tmod x 2;intro e;omega
theorem rd{c k a b X:Int}(h:(c==k)=true)(e:X=P.does k a b):X=P.does c a b:=by rw[eq_of_beq h];exact e
theorem r1{a b:Int}(h:In64 b):wrap64 (u b)=P.does 1 a b:=by rw[adO,EH h];rfl
theorem r2(a b:Int):wrap64 (IntKind.u64.wrap (u a+u b))=P.does 2 a b:=by rw[adK];exact akv (aIS a b)
theorem r3(a b:Int):wrap64 (IntKind.u64.wrap (u a-u b))=P.does 3 a b:=by rw[adK];exact akv aku
theorem r4(a b:Int):wrap64 (IntKind.u64.wrap (u a*u b))=P.does 4 a b:=by rw[adK];exact akv (au1 a b)
theorem r5z{a b:Int}(h:u b=0):0=P.does 5 a b:=by show 0=if u b=0 then 0 else _;rw[dB h]
theorem r5{a b:Int}(h:¬u b=0):wrap64 (u a/u b)=P.does 5 a b:=by show _=if u b=0 then 0 else _;rw[dw h]
theorem r6z{a b:Int}(ha:In64 a)(h:u b=0):wrap64 (u a)=P.does 6 a b:=by show _=if u b=0 then a else _;rw[dB h,adO,EH ha]
theorem r6{a b:Int}(h:¬u b=0):wrap64 (u a%u b)=P.does 6 a b:=by show _=if u b=0 then a else _;rw[dw h]
theorem r10(a b:Int):wrap64 (IntKind.u64.wrap (u a*2^sh b))=P.does 10 a b:=by rw[adK];rfl
theorem r11(a b:Int):wrap64 (u a/2^sh b)=P.does 11 a b:=rfl
theorem r13(a b:Int):wrap64 (IntKind.u64.wrap (-u a))=P.does 13 a b:=by rw[adK];exact akv aku
theorem rd0{c a b:Int}(h1:(c==1)=false)(h2:(c==2)=false)(h3:(c==3)=false)(h4:(c==4)=false)(h5:(c==5)=false)(h6:(c==6)=false)
  (h7:(c==7)=false) (h8:(c==8)=false) (h9:(c==9)=false) (h10:(c==10)=false) (h11:(c==11)=false) (h12:(c==12)=false) (h13:(c==13)=false) :
  0=P.does c a b:=by
 simp only[beq_eq_false_iff_ne,ne_eq]at *;unfold P.does;simp only[*,if_false]
theorem aIT{k:Nat}{b:Int}(h:k<sh b):(2:Int)^k*2≤18446744073709551615:=by
 have h1:=adw b;have h2:=aef (show k+1<64 by omega);rw[Int.pow_succ]at h2;omega
theorem aIU(c a b:Int)(c7:(c==7)=false)(c8:(c==8)=false)(c9:(c==9)=false)(c12:(c==12)=false)(ha:In64 a)(hb:In64 b)(w:World) :
  Calls Tryz.prog 156 #[aU c,aU a,aU b] w fun e w'=>e=.returned (aU (P.does c a b))∧w=w':=by
 have e1:=wrap_u64 a;have e2:=wrap_u64 b;have e3:u b%64=(sh b:Int):=by rw[alb];unfold sh;omega
 refine aoE ?_;intro b1 b2 b3 b4;have b6:sh b≤63:=alc;have HAI:=bW ha;have HBI:=bW hb;clear ha hb;go_enter Tryz.func156,Tryz.ntmps156;go_wp2_with fail;go_loop [10,24] (fun p i=>∃ k:Nat,k≤sh b∧i=.int .u64 k∧p=.int .u64 (2^k)) (fun _ i=>sh b-(intOf i).toNat)
 case atStart=>exact⟨0,by omega,rfl,rfl⟩
 case round =>
  obtain⟨k,hk,rfl,rfl⟩:=hrel;have hp:=pow_pos k;by_cases h:k<sh b
  ·exact au2
  ·obtain rfl:k=sh b:=bQ;have h63:=aef (show sh b<64 by omega);have H63:=bW h63;by_cases hz:u b=0
   ·have hz1:(u b==0)=true:=by simp[hz]
    have hz2:(u b !=0)=false:=by simp[hz]
    have HZ:=bW hz;clear hz;go_wp2_with fail;all_goals (go_ret;refine⟨acE ?_,rfl⟩)
    all_goals (first|exact rd (k:=1) rM (r1 HBI.out)|exact rd (k:=2) rM (r2 a b)|exact rd (k:=3) rM (r3 a b)|exact rd (k:=4) rM (r4 a b)|exact rd (k:=10) rM (r10 a b)|exact rd (k:=11) rM (r11 a b)|exact rd (k:=13) rM (r13 a b)|exact rd (k:=5) rM (r5z HZ.out)|exact rd (k:=6) rM (r6z HAI.out HZ.out)|exact rd0 rM rM rM rM rM rM c7 c8 c9 rM rM c12 rM)
   ·have hz2:(u b !=0)=true:=by simp[hz]
    have hz1:(u b==0)=false:=by simp[hz]
    go_wp2_with fail;all_goals (go_ret;refine⟨acE ?_,rfl⟩)
    all_goals (first|exact rd (k:=1) rM (r1 HBI.out)|exact rd (k:=2) rM (r2 a b)|exact rd (k:=3) rM (r3 a b)|exact rd (k:=4) rM (r4 a b)|exact rd (k:=10) rM (r10 a b)|exact rd (k:=11) rM (r11 a b)|exact rd (k:=13) rM (r13 a b)|exact rd (k:=5) rM (r5 hz)|exact rd (k:=6) rM (r6 hz)|exact rd0 rM rM rM rM rM rM c7 c8 c9 rM rM c12 rM)
theorem aIV(a b:Int)(ha:In64 a)(w:World) :
  Calls Tryz.prog 156 #[aU 12,aU a,aU b] w fun e w'=>e=.returned (aU (P.does 12 a b))∧w=w':=by
 have e1:=wrap_u64 a;have e2:=wrap_u64 b;have e3:u b%64=(sh b:Int):=by rw[alb];unfold sh;omega
 refine aoE ?_;intro b1 b2 b3 b4;have b6:sh b≤63:=alc;have HA:=bW ha;clear ha;go_enter Tryz.func156,Tryz.ntmps156;go_wp2_with fail;go_loop [10,24] (fun p i=>∃ k:Nat,k≤sh b∧i=.int .u64 k∧p=.int .u64 (2^k)) (fun _ i=>sh b-(intOf i).toNat)
 case atStart=>exact⟨0,by omega,rfl,rfl⟩
 case round =>
  obtain⟨k,hk,rfl,rfl⟩:=hrel;have hp:=pow_pos k;by_cases h:k<sh b
  ·exact au2
  ·obtain rfl:k=sh b:=bQ;clear h hp hk;go_wp2_with fail;go_loop [1,112] (fun x i=>∃ k:Nat,k≤sh b∧i=.int .u64 k∧x=aU (ra a k)) (fun _ i=>sh b-(intOf i).toNat)
   case atStart=>exact⟨0,by omega,rfl,by rw[aHg]⟩
   case round =>
    obtain⟨k,hk,rfl,rfl⟩:=hrel;have r1:=(apg HA.out k).1;have r2:=(apg HA.out k).2;have rn:=aHh a k;have RN:=bW rn;clear rn;by_cases h:k<sh b
    ·by_cases h0:ra a k<0
     ·by_cases hm:ra a k%2=0
      ·have t1:(ra a k).tdiv 2=ra a (k+1):=by rw[←RN.out,aBU hm]
       have t2:((ra a k).tmod 2 !=0)=false:=by rw[aIP hm];rfl
       have t3:=apg HA.out (k+1);go_wp2_with fail;go_round
       case rel=>exact⟨k+1,by omega,by go_num,rfl⟩
       case measure=>simp[intOf];omega
      ·have t1:(ra a k).tdiv 2=ra a (k+1)+1:=by rw[←RN.out,aIQ h0 hm]
       have t2:((ra a k).tmod 2 !=0)=true:=by rw[bne_iff_ne];exact aIR hm
       have t3:=apg HA.out (k+1);have t4:ra a (k+1)≤-1:=by have:=RN.out;omega
       go_wp2_with fail;go_round
       case rel=>exact⟨k+1,by omega,by go_num,by go_num⟩
       case measure=>simp[intOf];omega
     ·go_wp2_with fail;go_round
      case rel=>exact⟨k+1,by omega,by go_num,by rw[←RN.out]⟩
      case measure=>simp[intOf];omega
    ·obtain rfl:k=sh b:=bQ;exact ac0
def aIW(c a b:Int)(x y z p i:Value):Prop :=
 ∃ k:Nat,k≤64∧i=aU k∧x=.int .u64 (rx a k)∧y=.int .u64 (rx b k)∧z=.int .u64 (rz c a b k)∧p=.int .u64 (rp k)
theorem aIX(c a b:Int)(hc:c=7∨c=8∨c=9)(w:World) :
  Calls Tryz.prog 156 #[aU c,aU a,aU b] w fun e w'=>e=.returned (aU (P.does c a b))∧w=w':=by
 have e1:=wrap_u64 a;have e2:=wrap_u64 b;have e3:u b%64=(sh b:Int):=by rw[alb];unfold sh;omega
 refine aoE ?_;intro b1 b2 b3 b4;have b6:sh b≤63:=alc;obtain⟨d,hd⟩:∃ d:Int,d=c:=⟨c,rfl⟩;have LAST:=bW (show wrap64 (rz d a b 64)=P.does c a b by rw[hd];exact aHf (X:=a) (Y:=b) hc);have HD:=bW hd;clear hd;rcases hc with rfl|rfl|rfl
 all_goals
  go_enter Tryz.func156,Tryz.ntmps156;go_wp2_with fail;go_loop [10,24] (fun p i=>∃ k:Nat,k≤sh b∧i=.int .u64 k∧p=.int .u64 (2^k)) (fun _ i=>sh b-(intOf i).toNat)
  case atStart=>exact⟨0,by omega,rfl,rfl⟩
  case round =>
   obtain⟨k,hk,rfl,rfl⟩:=hrel;have hp:=pow_pos k;by_cases h:k<sh b
   ·exact au2
   ·obtain rfl:k=sh b:=bQ;clear h hp hk;go_wp2_with fail;go_loop [7,8,11,12,66] (fun x y z p i=>aIW d a b x y z p i) (fun _ _ _ _ i=>64-(intOf i).toNat)
    case atStart=>exact⟨0,by omega,rfl,by rw[ayl],by rw[ayl],by rw[aHa],rfl⟩
    case round =>
     obtain⟨i,hi,rfl,rfl,rfl,rfl,rfl⟩:=hrel;clear e1 e2 e3 b1 b2 b3 b4 b6;have x1:=aym a i;have x2:=aym b i;by_cases h:i<64
     ·have x3:=aHb (c:=d) (X:=a) (Y:=b) h;have x4:=aG8 i;have x5:=aG9 i;have m1:max (0:Int) 0=0:=rfl;have m2:max (0:Int) 1=1:=rfl;have m3:max (1:Int) 0=1:=rfl;have m4:max (1:Int) 1=1:=rfl;have HX:=bW (ayn a i);have HY:=bW (ayn b i);have HZ:=bW (aHe d a b i);have HP:=bW (ayk h);rcases ayo a i with xb|xb<;>rcases ayo b i with yb|yb
      all_goals
       have HXB:=bW xb;have HYB:=bW yb;go_wp2_with fail;go_round
       case rel =>
        refine⟨i+1,by omega,by go_num,?_,?_,?_,?_⟩;all_goals (first|rw[HX.out]|rw[HY.out]|rw[HZ.out,HD.out,HXB.out,HYB.out,←HP.out];simp[Un]|rfl)
       case measure=>simp[intOf];omega
     ·obtain rfl:i=64:=bQ;go_wp2_with fail;go_ret
      exact⟨acE LAST.out,rfl⟩
theorem adi(c a b:Int)(ha:In64 a)(hb:In64 b)(w:World) :
  Calls Tryz.prog 156 #[aU c,aU a,aU b] w fun e w'=>e=.returned (aU (P.does c a b))∧w=w':=by
 by_cases h:c=7∨c=8∨c=9
 ·exact aIX c a b h w
 ·by_cases h2:c=12
  ·subst h2;exact aIV a b ha w
  ·exact aIU c a b eU eU eU eU ha hb w
theorem jX(c:Int):P.asks c=(decide (15≤c)&&decide (c≤24)):=rfl
theorem Zd(n low high:Int)(w:World) :
  Calls Tryz.prog 50 #[aU n,aU low,aU high] w fun e w'=>e=.returned (.bool (decide (low≤n)&&decide (n≤high)))∧w=w':=by
 go_enter Tryz.func50,Tryz.ntmps50;go_wp2_with fail;all_goals go_ret
 all_goals (refine⟨aap ?_,rfl⟩;simp[*];try (intros;omega))
theorem mg(c:Int)(w:World) :
  Calls Tryz.prog 58 #[aU c] w fun e w'=>e=.returned (.bool (P.asks c))∧w=w':=by
 go_enter Tryz.func58,Tryz.ntmps58;go_wp2_with ((go_at_call 50;refine(Zd _ _ _ _).mono ?_;rintro e w' ⟨rfl,rfl⟩));exact amg
theorem N9(c:Int)(w:World) :
  Calls Tryz.prog 68 #[aU c] w fun e w'=>e=.returned (.bool (P.asks c))∧w=w':=by
 go_enter Tryz.func68,Tryz.ntmps68;go_wp2_with fail;all_goals go_ret
 all_goals (refine⟨aap ?_,rfl⟩;simp[P.asks, *];try (intros;omega))
theorem aIY(x0 x1 x2 x3 x4 x5 x6 x7 x8 x9:Bool)(w:World):(Instr.index 297 (.agg #[.bool x0,.bool x1,.bool x2,.bool x3,.bool x4,.bool x5,.bool x6,.bool x7,.bool x8,.bool x9]) (aU 0)).run Tryz.prog w=.ok (.bool x0) w:=dF
theorem aIZ(x0 x1 x2 x3 x4 x5 x6 x7 x8 x9:Bool)(w:World):(Instr.index 297 (.agg #[.bool x0,.bool x1,.bool x2,.bool x3,.bool x4,.bool x5,.bool x6,.bool x7,.bool x8,.bool x9]) (aU 1)).run Tryz.prog w=.ok (.bool x1) w:=dF
theorem aI0(x0 x1 x2 x3 x4 x5 x6 x7 x8 x9:Bool)(w:World):(Instr.index 297 (.agg #[.bool x0,.bool x1,.bool x2,.bool x3,.bool x4,.bool x5,.bool x6,.bool x7,.bool x8,.bool x9]) (aU 2)).run Tryz.prog w=.ok (.bool x2) w:=dF
theorem aI1(x0 x1 x2 x3 x4 x5 x6 x7 x8 x9:Bool)(w:World):(Instr.index 297 (.agg #[.bool x0,.bool x1,.bool x2,.bool x3,.bool x4,.bool x5,.bool x6,.bool x7,.bool x8,.bool x9]) (aU 3)).run Tryz.prog w=.ok (.bool x3) w:=dF
theorem aI2(x0 x1 x2 x3 x4 x5 x6 x7 x8 x9:Bool)(w:World):(Instr.index 297 (.agg #[.bool x0,.bool x1,.bool x2,.bool x3,.bool x4,.bool x5,.bool x6,.bool x7,.bool x8,.bool x9]) (aU 4)).run Tryz.prog w=.ok (.bool x4) w:=dF
theorem aI3(x0 x1 x2 x3 x4 x5 x6 x7 x8 x9:Bool)(w:World):(Instr.index 297 (.agg #[.bool x0,.bool x1,.bool x2,.bool x3,.bool x4,.bool x5,.bool x6,.bool x7,.bool x8,.bool x9]) (aU 5)).run Tryz.prog w=.ok (.bool x5) w:=dF
theorem aI4(x0 x1 x2 x3 x4 x5 x6 x7 x8 x9:Bool)(w:World):(Instr.index 297 (.agg #[.bool x0,.bool x1,.bool x2,.bool x3,.bool x4,.bool x5,.bool x6,.bool x7,.bool x8,.bool x9]) (aU 6)).run Tryz.prog w=.ok (.bool x6) w:=dF
theorem aI5(x0 x1 x2 x3 x4 x5 x6 x7 x8 x9:Bool)(w:World):(Instr.index 297 (.agg #[.bool x0,.bool x1,.bool x2,.bool x3,.bool x4,.bool x5,.bool x6,.bool x7,.bool x8,.bool x9]) (aU 7)).run Tryz.prog w=.ok (.bool x7) w:=dF
theorem aI6(x0 x1 x2 x3 x4 x5 x6 x7 x8 x9:Bool)(w:World):(Instr.index 297 (.agg #[.bool x0,.bool x1,.bool x2,.bool x3,.bool x4,.bool x5,.bool x6,.bool x7,.bool x8,.bool x9]) (aU 8)).run Tryz.prog w=.ok (.bool x8) w:=dF
theorem aI7(x0 x1 x2 x3 x4 x5 x6 x7 x8 x9:Bool)(w:World):(Instr.index 297 (.agg #[.bool x0,.bool x1,.bool x2,.bool x3,.bool x4,.bool x5,.bool x6,.bool x7,.bool x8,.bool x9]) (aU 9)).run Tryz.prog w=.ok (.bool x9) w:=dF
theorem aI8(c a b:Int)(w:World) :
  Calls Tryz.prog 121 #[aU c,aU a,aU b] w fun e w'=>e=.returned (.bool (P.is c a b))∧w=w':=by
 have e1:=wrap_u64 a;have e2:=wrap_u64 b;by_cases h:P.asks c=true
 ·have h':c=15∨c=16∨c=17∨c=18∨c=19∨c=20∨c=21∨c=22∨c=23∨c=24:=by
   simp only[P.asks,Bool.and_eq_true,decide_eq_true_eq]at h;omega
  have i0:=aIY;have i1:=aIZ;have i2:=aI0;have i3:=aI1;have i4:=aI2;have i5:=aI3;have i6:=aI4;have i7:=aI5;have i8:=aI6;have i9:=aI7;rcases h' with rfl|rfl|rfl|rfl|rfl|rfl|rfl|rfl|rfl|rfl
  all_goals
   go_enter Tryz.func121,Tryz.ntmps121;go_wp2_with ((go_at_call 58;refine(mg _ _).mono ?_;rintro e w' ⟨rfl,rfl⟩));go_ret
   refine⟨aap ?_,rfl⟩;clear i0 i1 i2 i3 i4 i5 i6 i7 i8 i9 e1 e2 h;simp[P.is]
  all_goals (rw[Bool.eq_iff_iff];simp)
 ·have h0:P.asks c=false:=by simpa using h
  have h1:=bW h;clear h;go_enter Tryz.func121,Tryz.ntmps121;go_wp2_with ((go_at_call 58;refine(mg _ _).mono ?_;rintro e w' ⟨rfl,rfl⟩));go_ret
  refine⟨aap ?_,rfl⟩;have h2:¬(15≤c∧c≤24):=by have:=h1.out;simpa[P.asks]using this
  unfold P.is;repeat rw[dw bQ]
end Go.Proofs.YtglilddlhibogaaGreatDoor.W
