/- A part of the proof; each theorem states its conditions. -/
import Derived.Test.YtglilddlhibogaaGreatDoorR4
import Derived.Test.YtglilddlhibogaaGreatDoorWalkStep
set_option linter.unusedSimpArgs false
set_option linter.unusedVariables false
set_option maxRecDepth 100000
set_option maxHeartbeats 100000000
namespace Go.Proofs.YtglilddlhibogaaGreatDoor.W
open Go.RowKit Go.Proofs.YtglilddlhibogaaGreatDoor.P
def Cells(w:World)(a:Addr)(S:Nat→Step)(n:Nat):Prop:=∀ i,i<n →
  w.cell? (a.add (i*6))=some (aU (S i).code)∧w.cell? ⟨(a.add (i*6)).block,(a.add (i*6)).off+1,none⟩=some (aU (S i).dst) ∧
  w.cell? ⟨(a.add (i*6)).block,(a.add (i*6)).off+2,none⟩=some (aU (S i).src)∧w.cell? ⟨(a.add (i*6)).block,(a.add (i*6)).off+3,none⟩=some (.bool (S i).reg) ∧
  w.cell? ⟨(a.add (i*6)).block,(a.add (i*6)).off+4,none⟩=some (aU (S i).off)∧w.cell? ⟨(a.add (i*6)).block,(a.add (i*6)).off+5,none⟩=some (aU (S i).num)
theorem Cells.later{w w':World}{a:Addr}{S:Nat→Step}{n:Nat}(h:Cells w a S n)(hb:Below w.heap.size w w'):Cells w' a S n:=by
  intro i hi;obtain⟨e0,e1,e2,e3,e4,e5⟩:=h i hi;have l:=block_lt_of_cell e0;exact azf
def rC(w:World)(v:Value)(n p:Int):Prop :=
  (v=.nilIface∧n=0∧p=-1)∨(n≠0∧v=.iface 30 (aU n)∧p=-1) ∨
  (n≠0∧∃ b,v=.iface 119 (.pointer (some ⟨b,0,none⟩))∧w.cell? ⟨b,0,none⟩=some (aU n)∧w.cell? ⟨b,1,none⟩=some (aU p))
theorem apu(a:Addr)(n cap:Nat)(S:Nat→Step)(hn:1≤n)(hn2:n≤200)(hcap:n≤cap)(w:World)(hs:Cells w a S n)(hg:w.cell? ⟨5,0,none⟩=some (.iface 317 (.agg #[.pointer (some ⟨14,26,none⟩)]))) :
    Calls Tryz.prog 40 #[.slice (some a) n cap] w fun e w'=>∃ v,e=.returned v∧rC w' v (from_ S n 0 n).1 (from_ S n 0 n).2∧Below w.heap.size w w':=by
  refine fU ?_;intro HW0;have gz:=block_lt_of_cell hg;have n1:¬(n:Int)<1:=bQ;have n2:¬200<(n:Int):=bQ;go_enter Tryz.func40,Tryz.ntmps40;go_wp2_with fail;go_loopw [17] (fun i wr=>∃ k:Nat,k≤n∧i=aU k∧from_ S n 0 n=from_ S n k (n-k)∧Below w.heap.size w wr) (fun i _=>n-(intOf i).toNat)
  case atStart=>exact⟨0,by omega,rfl,by rw[Nat.sub_zero],Below.refl _ _⟩
  case round =>
    obtain⟨k,hk,rfl,hfr,HB⟩:=hrel;by_cases h:k<n
    · have hk1:(k:Int)<n:=by omega
      obtain⟨e0,e1,e2,e3,e4,e5⟩:=hs.later HB k h;have HWr:=bW HB;have zr:w.heap.size≤wr.heap.size:=HB.size;have Gu:=bW hfr;clear HB hfr;go_wp2_with fail;refine(aHX _ _ _ _ _ _ _).mono ?_;rw[show wrong (S k).code (S k).dst (S k).src (S k).reg (S k).off (S k).num=(S k).wrong from rfl]
      (rintro e w1 ⟨rfl,hb⟩;obtain⟨hc1,hf1⟩:=jd hb;have hz1:=hb.size;(try simp at hz1);have HW1:=bW (show Below w.heap.size w w1 from Below.trans atd (hb.mono fD));clear hb;have z10:w.heap.size<w1.heap.size:=bQ)
      have b0:w1.cell? ⟨wr.heap.size,0,none⟩=some (aU (S k).code):=XI;have b4:w1.cell? ⟨wr.heap.size,4,none⟩=some (aU (S k).off):=XI;clear hc1 hf1;by_cases hw:(S k).wrong=0
      · rw[hw,apv];go_wp2_with (go_at_call 68;refine(N9 _ _).mono ?_;rintro e w' ⟨rfl,rfl⟩;rw[jX]);all_goals (try simp only[Bool.not_eq_eq_eq_not,Bool.not_true,Bool.not_false,decide_eq_true_eq,decide_eq_false_iff_not,Bool.or_eq_true,Bool.and_eq_true,Bool.or_eq_false_iff,Bool.and_eq_false_iff,beq_iff_eq,beq_eq_false_iff_ne,bne_iff_ne,bne_eq_false_iff_eq,ne_eq]at *)
        all_goals first
          | (go_ret
             have HA:at_ S n k=10:=by unfold at_ Step.leads;rw[dw (not_not_intro hw),dB bQ]
             refine⟨_,rfl,.inr (.inr ⟨?_,w1.heap.size,rfl,?_,?_⟩),jZ⟩
             · rw[Gu.out,XJ h acZ,HA];simp
             · rw[Gu.out,XJ h acZ,HA];first|(simp;done)|(simp;omega)
             · rw[Gu.out,XJ h acZ,HA];first|(simp;done)|(simp;omega))
          | (go_roundw
             case rel =>
               have HA:at_ S n k=0:=azp
               exact⟨k+1,by omega,by go_num,Gu.out.trans (azq h HA),HW1.out⟩
             case measure=>simp[intOf];omega)
          | (go_ret
             have HA:at_ S n k=8:=by unfold at_ Step.leads;rw[dw (not_not_intro hw),dw bQ,dB bQ]
             refine⟨_,rfl,.inr (.inr ⟨?_,w1.heap.size,rfl,?_,?_⟩),jZ⟩
             · rw[Gu.out,XJ h acZ,HA];simp
             · rw[Gu.out,XJ h acZ,HA];first|(simp;done)|(simp;omega)
             · rw[Gu.out,XJ h acZ,HA];first|(simp;done)|(simp;omega))
      · rw[Ut hw];go_wp2_with fail;refine(azr _ _ ((HW1.out.cell gz).trans hg)).mono ?_
        (rintro e w2 ⟨rfl,hb⟩;obtain⟨hc2,hf2⟩:=jd hb;have hz2:=hb.size;(try simp at hz2);have HW2:=bW (show Below w.heap.size w w2 from Below.trans jZ (hb.mono fD));clear hb;have z20:w.heap.size<w2.heap.size:=bQ)
        clear hc2 hf2;go_wp2_with fail;go_ret
        refine⟨_,rfl,.inr (.inr ⟨?_,w2.heap.size,rfl,?_,?_⟩),Uu⟩
        · rw[Gu.out,XJ h ate];unfold at_;rw[dB hw];exact hw
        · rw[Gu.out,XJ h ate];unfold at_;rw[dB hw];simp
        · rw[Gu.out,XJ h ate];simp
    · obtain rfl:k=n:=by omega
      go_wp2_with fail;go_ret
      refine⟨_,rfl,.inl ⟨rfl,?_,?_⟩,HB⟩<;>rw[hfr,azs]
theorem azt(a:Option Addr)(n cap:Nat)(hn:n<1∨200<n)(hcap:n≤cap)(w:World) :
    Calls Tryz.prog 40 #[.slice a n cap] w fun e w'=>e=.returned (.iface 30 (aU 4))∧w=w':=by
  by_cases h:n<1
  · have n1:(n:Int)<1:=by omega
    go_enter Tryz.func40,Tryz.ntmps40;exact ac0
  · have n1:¬(n:Int)<1:=by omega
    have n2:200<(n:Int):=bQ;go_enter Tryz.func40,Tryz.ntmps40;exact ac0
theorem Yk(e:Int)(w:World):Calls Tryz.prog 18 #[aU e] w fun v w'=>v=.returned (.agg #[aU e,aU (-1)])∧Below w.heap.size w w':=by
  go_enter Tryz.func18,Tryz.ntmps18;go_wp2_with fail;exact bodyPost_ret (v:=.agg #[aU e,aU (-1)]) (by simp[results,Tryz.results18,go_sem]) rfl ⟨rfl,uT⟩
theorem azu(a:Option Addr)(n cap:Nat)(hn:n<1∨200<n)(hcap:n≤cap)(w:World) :
    Calls Tryz.prog 35 #[.slice a n cap] w fun e w'=>e=.returned (.agg #[aU 4,aU (-1)])∧Below w.heap.size w w':=by
  refine fU ?_;intro HW0;have h5:(decide (1≤(n:Int))&&decide ((n:Int)≤200))=false:=eU;clear hn;go_enter Tryz.func35,Tryz.ntmps35;go_wp2_with (go_at_call 50;refine(Zd _ _ _ _).mono ?_;rintro e w' ⟨rfl,rfl⟩;rw[h5]);refine(Yk _ _).mono ?_;refine apw ?_;intro w1 hc1 hf1 hz1 HW1 z10;have b0:w1.cell? ⟨w.heap.size,0,none⟩=some (aU 0):=XI;have b1:w1.cell? ⟨w.heap.size,1,none⟩=some (aU 0):=XI;have r0:w1.frozen? ⟨w.heap.size,0,none⟩=false:=by rw[hf1 _ _ dY];simp[go_sem]
  have r1:w1.frozen? ⟨w.heap.size,1,none⟩=false:=by rw[hf1 _ _ dY];simp[go_sem]
  clear hc1 hf1;go_wp2_with fail;exact bodyPost_ret (v:=.agg #[aU 4,aU (-1)]) (by simp[results,Tryz.results35,go_sem,b0,b1,z10]) rfl ⟨rfl,jZ⟩
theorem aoJ(a:Addr)(n cap:Nat)(S:Nat→Step)(hn:1≤n)(hn2:n≤200)(hcap:n≤cap)(w:World)(hs:Cells w a S n) :
    Calls Tryz.prog 35 #[.slice (some a) n cap] w fun e w'=>e=.returned (.agg #[aU (from_ S n 0 n).1,aU (from_ S n 0 n).2])∧Below w.heap.size w w':=by
  refine fU ?_;intro HW0;have h5:(decide (1≤(n:Int))&&decide ((n:Int)≤200))=true:=eU;go_enter Tryz.func35,Tryz.ntmps35;go_wp2_with (go_at_call 50;refine(Zd _ _ _ _).mono ?_;rintro e w' ⟨rfl,rfl⟩;rw[h5]);clear h5;go_loopw [14] (fun i wr=>∃ k:Nat,k≤n∧i=aU k∧from_ S n 0 n=from_ S n k (n-k)∧wr.cell? ⟨w.heap.size,0,none⟩=some (aU 0)∧wr.cell? ⟨w.heap.size,1,none⟩=some (aU 0)∧wr.frozen? ⟨w.heap.size,0,none⟩=false∧wr.frozen? ⟨w.heap.size,1,none⟩=false∧w.heap.size<wr.heap.size∧Below w.heap.size w wr) (fun i _=>n-(intOf i).toNat)
  case atStart=>exact⟨0,by omega,rfl,by rw[Nat.sub_zero],by simp[go_sem],by simp[go_sem],by simp[go_sem],by simp[go_sem],by simp,gI⟩
  case round =>
    obtain⟨k,hk,rfl,hfr,a0,a1,q0,q1,zr,HB⟩:=hrel;have HWr:=bW HB;have Gu:=bW hfr;by_cases h:k<n
    · have hk1:(k:Int)<n:=by omega
      obtain⟨e0,e1,e2,e3,e4,e5⟩:=hs.later HB k h;clear HB hfr;go_wp2_with fail;refine(aHY _ _ _ _ _ _ _).mono ?_;rw[show wrong (S k).code (S k).dst (S k).src (S k).reg (S k).off (S k).num=(S k).wrong from rfl]
      (rintro e w1 ⟨rfl,hb⟩;obtain⟨hc1,hf1⟩:=jd hb;have hz1:=hb.size;(try simp at hz1);have HW1:=bW (show Below w.heap.size w w1 from Below.trans atd (hb.mono fD));clear hb;have z10:w.heap.size<w1.heap.size:=bQ;have z11:w.heap.size+1<w1.heap.size:=bQ)
      have b0:w1.cell? ⟨wr.heap.size,0,none⟩=some (aU (S k).code):=XI;have b4:w1.cell? ⟨wr.heap.size,4,none⟩=some (aU (S k).off):=XI;have d0:w1.cell? ⟨w.heap.size,0,none⟩=some (aU 0):=by rw[hc1 _ _ eU];simp[go_sem,a0,zr]
      have d1:w1.cell? ⟨w.heap.size,1,none⟩=some (aU 0):=by rw[hc1 _ _ eU];simp[go_sem,a1,zr]
      have s0:w1.frozen? ⟨w.heap.size,0,none⟩=false:=by rw[hf1 _ _ eU];simp[go_sem,q0,zr]
      have s1:w1.frozen? ⟨w.heap.size,1,none⟩=false:=by rw[hf1 _ _ eU];simp[go_sem,q1,zr]
      clear hc1 hf1 a0 a1 q0 q1;by_cases hw:(S k).wrong=0
      · rw[hw];go_wp2_with (go_at_call 58;refine(mg _ _).mono ?_;rintro e w' ⟨rfl,rfl⟩;rw[jX]);all_goals (try simp only[Bool.not_eq_eq_eq_not,Bool.not_true,Bool.not_false,decide_eq_true_eq,decide_eq_false_iff_not,Bool.or_eq_true,Bool.and_eq_true,Bool.or_eq_false_iff,Bool.and_eq_false_iff,beq_iff_eq,beq_eq_false_iff_ne,bne_iff_ne,bne_eq_false_iff_eq,ne_eq]at *)
        all_goals first
          | (have HA : at_ S n k = 10 := by unfold at_ Step.leads; rw [dw (not_not_intro hw), dB bQ]
             refine bodyPost_ret (v:=.agg #[aU 10,aU k]) azv rfl ⟨by rw[Gu.out,XJ h acZ,HA],jZ⟩)
          | (have HA : at_ S n k = 8 := by unfold at_ Step.leads; rw [dw (not_not_intro hw), dw bQ, dB bQ]
             refine bodyPost_ret (v:=.agg #[aU 8,aU k]) azv rfl ⟨by rw[Gu.out,XJ h acZ,HA],jZ⟩)
          | (go_roundw
             case rel =>
               have HA:at_ S n k=0:=azp
               exact⟨k+1,by omega,by go_num,Gu.out.trans (azq h HA),d0,d1,s0,s1,by omega,HW1.out⟩
             case measure=>simp[intOf];omega)
      · have hw2:((S k).wrong==0)=false:=by rw[beq_eq_false_iff_ne];exact hw
        go_wp2_with fail;have HA:at_ S n k=(S k).wrong:=by unfold at_;rw[dB hw]
        exact bodyPost_ret (v:=.agg #[aU (S k).wrong,aU k]) (by simp[results,Tryz.results35,go_sem,d0,d1,z10]) rfl ⟨by rw[Gu.out,XJ h (by rw[HA];exact hw),HA],jZ⟩
    · obtain rfl:k=n:=by omega
      go_wp2_with fail;refine(Yk _ _).mono ?_
      (rintro e w1 ⟨rfl,hb⟩;obtain⟨hc1,hf1⟩:=jd hb;have hz1:=hb.size;(try simp at hz1);have HW1:=bW (show Below w.heap.size w w1 from Below.trans atd (hb.mono fD));clear hb;have z10:w.heap.size<w1.heap.size:=bQ)
      have d0:w1.cell? ⟨w.heap.size,0,none⟩=some (aU 0):=by rw[hc1 _ _ fD];assumption
      have d1:w1.cell? ⟨w.heap.size,1,none⟩=some (aU 0):=by rw[hc1 _ _ fD];assumption
      have s0:w1.frozen? ⟨w.heap.size,0,none⟩=false:=by rw[hf1 _ _ fD];assumption
      have s1:w1.frozen? ⟨w.heap.size,1,none⟩=false:=by rw[hf1 _ _ fD];assumption
      clear hc1 hf1;go_wp2_with fail;exact bodyPost_ret (v:=.agg #[aU 0,aU (-1)]) (by simp[results,Tryz.results35,go_sem,d0,d1,z10]) rfl ⟨by rw[Gu.out,azs],jZ⟩
end Go.Proofs.YtglilddlhibogaaGreatDoor.W
