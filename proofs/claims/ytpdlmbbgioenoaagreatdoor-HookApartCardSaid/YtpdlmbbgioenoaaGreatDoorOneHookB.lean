/- A part of the proof; each theorem states its conditions. -/
import Derived.Lib.AppendZerosOnto
import Derived.Lib.Overlaps
import Derived.Laws.Externs
import Derived.Laws.CopyOwn
import Derived.Deep.AppendSrc
import Derived.Shelf.RegionOpenPlain
import Derived.Lib.SliceRun
import Derived.Test.YtpdlmbbgioenoaaGreatDoorOneLet
import Derived.Deep.Onto
set_option linter.unusedSimpArgs false
set_option linter.unusedVariables false
set_option maxRecDepth 100000
namespace Go.Proofs.YtpdlmbbgioenoaaGreatDoor.P
open Go.RowKit (wrap64)
def outc (S:Nat→Step) (n:Nat) (told cells:Nat→Int) (time:Int):(Int × Int) ⊕ (Mach × Int × Int) :=
 if n < 1 ∨ 200 < n then .inl (4,-1) else if (from_ S n 0 n).1 ≠ 0 then .inl ((from_ S n 0 n).1,(from_ S n 0 n).2) else Mach.run S told time n (Mach.init cells) 0 1
structure HP where
 id:Int
 rank:Int
 code:List Step
 cells:Nat→Int
structure HC where
 l:List HP
 next:Int
structure Sd where
 by_:Int
 num:Int
 steps:Int
 out:List Int
def Sd.zero:Sd:=⟨0,0,0,[]⟩
def hpos (l:List HP) (rank:Int):Nat:=l.findIdx fun p => decide (rank < p.rank)
def HC.put (c:HC) (L:List Step) (rank:Int):HC:=⟨c.l.take (hpos c.l rank)++⟨c.next+1,rank,L,fun _ => 0⟩ :: c.l.drop (hpos c.l rank),c.next+1⟩
def HC.attach (c:HC) (L:List Step) (rank:Int):HC × Int × (Int × Int) :=
 if (verify (nth L) L.length).1.1 ≠ 0 then (c,0,(verify (nth L) L.length).1) else if 8≤c.l.length then (c,0,(12,-1)) else (c.put L rank,c.next+1,(0,-1))
def hrun (told:Nat→Int) (time:Int):List HP→Sd→List HP × Sd
 | [],s => ([],s)
 | p :: t,s => match outc (nth p.code) p.code.length told p.cells time with
  | .inl _ => (p :: (hrun told time t s).1,(hrun told time t s).2)
  | .inr (M,num,st) =>
   if num ≠ 0 then ({ p with cells:=M.cells } :: t,⟨p.id,num,s.steps+st,s.out++M.out⟩)
   else ({ p with cells:=M.cells } :: (hrun told time t ⟨s.by_,s.num,s.steps+st,s.out++M.out⟩).1,(hrun told time t ⟨s.by_,s.num,s.steps+st,s.out++M.out⟩).2)
structure HD where
 c:Nat→HC
 q:Nat→List (Nat→Int)
 may:Nat→Int
 left:Nat→Int
 time:Int
def HD.zero (may:Nat→Int):HD:=⟨fun _ => ⟨[],0⟩,fun _ => [],may,fun _ => 0,0⟩
structure HS where
 c:HC
 q:List (Nat→Int)
 left:Int
 time:Int
 done:List Sd
def HS.one (s:HS) (e:Nat→Int) (r:List (Nat→Int)):HS :=
 ⟨{ s.c with l:=(hrun e s.time s.c.l .zero).1 },r,s.left - ((hrun e s.time s.c.l .zero).2.steps+1),s.time+1,s.done++[(hrun e s.time s.c.l .zero).2]⟩
def drain:Nat→HS→HS
 | 0,s => s
 | k+1,s => match s.q with
  | [] => s
  | e :: r => if 0 < s.left then drain k (s.one e r) else s
def HD.turn (d:HD) (k:Nat):HS:=drain (d.q k).length ⟨d.c k,d.q k,d.left k+d.may k,d.time,[]⟩
def HS.rest (s:HS):Int:=if s.q=[] then min s.left 0 else s.left
def HD.after (d:HD) (k:Nat):HD:=⟨upd d.c k (d.turn k).c,upd d.q k (d.turn k).q,d.may,upd d.left k (d.turn k).rest,(d.turn k).time⟩
def HD.doneOf (d:HD) (k:Nat):List (Int × Sd):=(d.turn k).done.map fun s => ((k:Int),s)
def HD.round (d:HD):HD:=((d.after 0).after 1).after 2
def HD.done (d:HD):List (Int × Sd):=d.doneOf 0++(d.after 0).doneOf 1++((d.after 0).after 1).doneOf 2
def HD.event (d:HD) (k:Nat) (told:Nat→Int):HD:=if 20≤(d.q k).length then d else { d with q:=upd d.q k (d.q k++[told]) }
def HD.attach (d:HD) (k:Nat) (L:List Step) (rank:Int):HD:={ d with c:=upd d.c k ((d.c k).attach L rank).1 }
theorem run_steps (S:Nat→Step) (told:Nat→Int) (time:Int):∀ (k:Nat) (M:Mach) (pc st:Int) {M':Mach} {n st':Int},Mach.run S told time k M pc st=.inr (M',n,st')→st≤st'∧st' < st+k
 | 0,_,_,_,_,_,_,h => by simp [Mach.run] at h
 | k+1,M,pc,st,M',n,st',h => by
  rw [Mach.run] at h
  generalize M.step told time (S pc.toNat) pc=R at h
  cases R with
  | done M2 n2 => simp only at h; injection h with h; injection h with _ h; injection h with _ h; subst h; omega
  | err e => simp only at h; cases h
  | go M2 nx => have:=run_steps S told time k M2 nx (st+1) h; omega
theorem outc_steps {S:Nat→Step} {n:Nat} {told cells:Nat→Int} {time:Int} {M:Mach} {num st:Int} (h:outc S n told cells time=.inr (M,num,st)):1≤st∧st≤200:=by
 unfold outc at h
 split at h
 ·cases h
 split at h
 ·cases h
 ·have:=run_steps S told time n _ 0 1 h; omega
theorem hrun_steps (told:Nat→Int) (time:Int):∀ (l:List HP) (s:Sd),s.steps≤(hrun told time l s).2.steps∧(hrun told time l s).2.steps≤s.steps+200*l.length
 | [],s => ⟨Int.le_refl _,by simp [hrun]⟩
 | p :: t,s => by
  rw [hrun]
  cases ho:outc (nth p.code) p.code.length told p.cells time with
  | inl e => have:=hrun_steps told time t s; simp only [List.length_cons]; omega
  | inr r =>
   obtain ⟨M,num,st⟩:=r
   have h1:=outc_steps ho
   simp only
   split
   ·simp only [List.length_cons]; omega
   ·have:=hrun_steps told time t ⟨s.by_,s.num,s.steps+st,s.out++M.out⟩
    simp only [List.length_cons] at this ⊢; omega
theorem hrun_length (told:Nat→Int) (time:Int):∀ (l:List HP) (s:Sd),(hrun told time l s).1.length=l.length
 | [],s => rfl
 | p :: t,s => by
  rw [hrun]
  cases outc (nth p.code) p.code.length told p.cells time with
  | inl e => simp [hrun_length told time t s]
  | inr r =>
   obtain ⟨M,num,st⟩:=r
   simp only
   split
   ·rfl
   ·simp [hrun_length told time t]
end Go.Proofs.YtpdlmbbgioenoaaGreatDoor.P
namespace Go.Proofs.YtpdlmbbgioenoaaGreatDoor.P
open Go.RowKit (wrap64)
def tot:List Sd→Int
 | [] => 0
 | s :: l => s.steps+1+tot l
def mx:List Sd→Int
 | [] => 0
 | s :: l => max (s.steps+1) (mx l)
theorem tot_app:∀ a b,tot (a++b)=tot a+tot b
 | [],b => by simp [tot]
 | x :: a,b => by rw [List.cons_append,tot,tot,tot_app a b]; omega
theorem mx_app:∀ a b,mx (a++b)=max (mx a) (mx b)
 | [],b => by
  simp [mx]
  induction b with
  | nil => simp [mx]
  | cons y b ih => rw [mx]; omega
 | x :: a,b => by rw [List.cons_append,mx,mx,mx_app a b]; omega
theorem mx_nonneg:∀ a,0≤mx a
 | [] => Int.le_refl _
 | x :: a => by rw [mx]; have:=mx_nonneg a; omega
structure DOk (s:HS):Prop where
 short:s.c.l.length≤8
 steps:∀ x ∈ s.done,0≤x.steps∧x.steps≤1600
theorem one_ok {s:HS} (h:DOk s) (e:Nat→Int) (r:List (Nat→Int)):DOk (s.one e r):=by
 refine ⟨by unfold HS.one; simp only [hrun_length]; exact h.short,fun x hx => ?_⟩
 unfold HS.one at hx
 rcases List.mem_append.1 hx with hx | hx
 ·exact h.steps x hx
 ·rw [List.mem_singleton] at hx
  subst hx
  have:=hrun_steps e s.time s.c.l .zero
  have h8:=h.short
  unfold Sd.zero at this ⊢
  simp only at this ⊢
  omega
structure Spends (s s':HS):Prop where
 ok:DOk s'
 sum:s'.left+tot s'.done=s.left+tot s.done
 len:s'.done.length+s'.q.length=s.done.length+s.q.length
 debt:0≤s.left+mx s.done→0≤s'.left+mx s'.done
 c:s'.c.next=s.c.next
theorem Spends.refl {s:HS} (h:DOk s):Spends s s:=⟨h,rfl,rfl,id,rfl⟩
theorem Spends.trans {a b c:HS} (h:Spends a b) (k:Spends b c):Spends a c:=⟨k.ok,k.sum.trans h.sum,k.len.trans h.len,fun x => k.debt (h.debt x),k.c.trans h.c⟩
theorem one_spends {s:HS} (h:DOk s) {e:Nat→Int} {r:List (Nat→Int)} (hq:s.q=e :: r) (hl:0 < s.left):Spends s (s.one e r):=by
 refine ⟨one_ok h e r,?_,?_,?_,rfl⟩
 ·unfold HS.one; simp only [tot_app,tot]; omega
 ·unfold HS.one; rw [hq]; simp only [List.length_append,List.length_cons,List.length_nil]; omega
 ·intro _; unfold HS.one; simp only [mx_app,mx]; have:=mx_nonneg s.done; omega
theorem drain_spends:∀ (k:Nat) (s:HS),DOk s→Spends s (drain k s)
 | 0,s,h => Spends.refl h
 | k+1,s,h => by
  unfold drain
  cases hq:s.q with
  | nil => exact Spends.refl h
  | cons e r =>
   simp only
   by_cases hl:0 < s.left
   ·rw [if_pos hl]
    exact (one_spends h hq hl).trans (drain_spends k _ (one_ok h e r))
   ·rw [if_neg hl]; exact Spends.refl h
theorem drain_end:∀ (k:Nat) (s:HS),s.q.length≤k→(drain k s).q=[] ∨ (drain k s).left≤0
 | 0,s,h => .inl (List.eq_nil_of_length_eq_zero (by unfold drain; omega))
 | k+1,s,h => by
  unfold drain
  cases hq:s.q with
  | nil => exact .inl hq
  | cons e r =>
   simp only
   by_cases hl:0 < s.left
   ·rw [if_pos hl]
    rw [hq] at h
    exact drain_end k _ (by unfold HS.one; simpa using h)
   ·rw [if_neg hl]; exact .inr (by omega)
structure FS where
 spent:Nat→Int
 most:Nat→Int
 came:Nat→Int
 went:Nat→Int
 always:Nat→Bool
 rounds:Int
def FS.zero:FS:=⟨fun _ => 0,fun _ => 0,fun _ => 0,fun _ => 0,fun _ => true,0⟩
def FS.add (f:FS) (y:Int × Sd):FS :=
 { f with spent:=upd f.spent y.1.toNat (f.spent y.1.toNat+(y.2.steps+1)),most:=upd f.most y.1.toNat (max (f.most y.1.toNat) (y.2.steps+1)),went:=upd f.went y.1.toNat (f.went y.1.toNat+1) }
def FS.adds (f:FS) (l:List (Int × Sd)):FS:=l.foldl FS.add f
structure FOk (may left n spent most came went rounds:Int) (always:Bool):Prop where
 hmay:1≤may∧may≤60
 hwaits:n=came - went
 hmost:0≤most∧most≤1601
 hdebt:0≤left+most
 hsum:left+spent≤rounds*may
 hall:always=true→left+spent=rounds*may
 hlast:always=true→0 < rounds→left≤0
 hspent:0≤spent
 hwent:0≤went
theorem FOk.holds {may left n spent most came went rounds:Int} {always:Bool} (h:FOk may left n spent most came went rounds always):n=came - went∧spent≤rounds*may+most∧(0 < rounds→always=true→rounds*may≤spent):=by
 have h1:=h.hdebt; have h2:=h.hsum
 refine ⟨h.hwaits,by omega,fun h0 ha => ?_⟩
 have h3:=h.hall ha; have h4:=h.hlast ha h0
 omega
structure FInv (d:HD) (f:FS) (R:Nat→Int):Prop where
 hook:∀ h,h < 3→FOk (d.may h) (d.left h) (d.q h).length (f.spent h) (f.most h) (f.came h) (f.went h) (R h) (f.always h)
 short:∀ h,h < 3→(d.c h).l.length≤8
 few:∀ h,h < 3→(d.q h).length≤20
theorem FInv.zero {may:Nat→Int} (h:∀ k,k < 3→1≤may k∧may k≤60):FInv (HD.zero may) FS.zero (fun _ => 0):=by
 refine ⟨fun k hk => ?_,fun k hk => by simp [HD.zero],fun k hk => by simp [HD.zero]⟩
 refine ⟨h k hk,?_,?_,?_,?_,?_,?_,?_,?_⟩ <;> simp [HD.zero,FS.zero]
theorem FInv.event {d:HD} {f:FS} {R:Nat→Int} (h:FInv d f R) (k:Nat) (told:Nat→Int):FInv (d.event k told) (if 20≤(d.q k).length then f else { f with came:=upd f.came k (f.came k+1) }) R:=by
 unfold HD.event
 by_cases h20:20≤(d.q k).length
 ·rw [if_pos h20,if_pos h20]; exact h
 ·rw [if_neg h20,if_neg h20]
  refine ⟨fun j hj => ?_,h.short,fun j hj => ?_⟩
  ·have hh:=h.hook j hj
   by_cases e:j=k
   ·subst e
    simp only [upd_same]
    exact ⟨hh.hmay,by have:=hh.hwaits; simp only [List.length_append,List.length_cons,List.length_nil]; push_cast; omega,hh.hmost,hh.hdebt,hh.hsum,hh.hall,hh.hlast,hh.hspent,hh.hwent⟩
   ·simp only [upd_other e]; exact hh
  ·by_cases e:j=k
   ·subst e; simp only [upd_same,List.length_append,List.length_cons,List.length_nil]; omega
   ·simp only [upd_other e]; exact h.few j hj
theorem put_length (c:HC) (L:List Step) (r:Int):(c.put L r).l.length=c.l.length+1:=by
 unfold HC.put
 simp only [List.length_append,List.length_cons,List.length_take,List.length_drop]
 omega
theorem attach_length (c:HC) (L:List Step) (r:Int) (h:c.l.length≤8):(c.attach L r).1.l.length≤8:=by
 unfold HC.attach
 split
 ·exact h
 split
 ·exact h
 ·simp only; rw [put_length]; omega
theorem FInv.attach {d:HD} {f:FS} {R:Nat→Int} (h:FInv d f R) (k:Nat) (L:List Step) (r:Int):FInv (d.attach k L r) f R:=by
 unfold HD.attach
 refine ⟨h.hook,fun j hj => ?_,h.few⟩
 by_cases e:j=k
 ·subst e; simp only [upd_same]; exact attach_length _ _ _ (h.short j hj)
 ·simp only [upd_other e]; exact h.short j hj
theorem upd_upd' {α:Type} (f:Nat→α) (i:Nat) (a b:α):upd (upd f i a) i b=upd f i b:=by
 funext j
 by_cases e:j=i
 ·subst e; rw [upd_same,upd_same]
 ·rw [upd_other e,upd_other e,upd_other e]
theorem upd_self {α:Type} (f:Nat→α) (i:Nat):upd f i (f i)=f:=by
 funext j
 by_cases e:j=i
 ·subst e; rw [upd_same]
 ·rw [upd_other e]
theorem adds_of (k:Nat):∀ (l:List Sd) (f:FS),0≤f.most k→f.adds (l.map fun s => ((k:Int),s))={ f with spent:=upd f.spent k (f.spent k+tot l),most:=upd f.most k (max (f.most k) (mx l)),went:=upd f.went k (f.went k+l.length) }
 | [],f,h => by
  have e:max (f.most k) 0=f.most k:=by omega
  simp [FS.adds,tot,mx,e,upd_self]
 | s :: l,f,h => by
  have ih:=adds_of k l (f.add ((k:Int),s)) (by unfold FS.add; simp only [Int.toNat_natCast,upd_same]; omega)
  have e:f.adds ((s :: l).map fun s => ((k:Int),s))=(f.add ((k:Int),s)).adds (l.map fun s => ((k:Int),s)):=rfl
  rw [e,ih]
  unfold FS.add
  simp only [Int.toNat_natCast,upd_same,upd_upd',tot,mx,List.length_cons]
  have e1:f.spent k+(s.steps+1)+tot l=f.spent k+(s.steps+1+tot l):=by omega
  have e2:f.went k+1+(l.length:Int)=f.went k+((l.length+1:Nat):Int):=by push_cast; omega
  have e3:max (max (f.most k) (s.steps+1)) (mx l)=max (f.most k) (max (s.steps+1) (mx l)):=by omega
  rw [e1,e2,e3]
theorem drain_idle:∀ (k:Nat) (s:HS),s.left≤0→drain k s=s
 | 0,s,_ => rfl
 | k+1,s,h => by
  unfold drain
  cases s.q with
  | nil => rfl
  | cons e r => simp only; rw [if_neg (by omega)]
theorem mx_le:∀ {l:List Sd} {b:Int},0≤b→(∀ x ∈ l,x.steps+1≤b)→mx l≤b
 | [],b,h0,_ => h0
 | x :: l,b,h0,h => by
  rw [mx]
  have h1:=h x (by simp)
  have h2:=mx_le (l:=l) h0 (fun y hy => h y (List.mem_cons_of_mem _ hy))
  omega
theorem tot_nonneg:∀ {l:List Sd},(∀ x ∈ l,0≤x.steps)→0≤tot l
 | [],_ => Int.le_refl _
 | x :: l,h => by
  rw [tot]
  have h1:=h x (by simp)
  have h2:=tot_nonneg (l:=l) (fun y hy => h y (List.mem_cons_of_mem _ hy))
  omega
theorem FInv.turn {d:HD} {f:FS} {R:Nat→Int} (h:FInv d f R) {k:Nat} (hk:k < 3) :
  FInv (d.after k) { f.adds (d.doneOf k) with always:=upd f.always k (f.always k && decide (0 < ((d.turn k).q).length)) } (upd R k (R k+1)):=by
 have hh:=h.hook k hk
 have h0:DOk ⟨d.c k,d.q k,d.left k+d.may k,d.time,[]⟩:=⟨h.short k hk,by simp⟩
 have hs:=drain_spends (d.q k).length _ h0
 have he:=drain_end (d.q k).length ⟨d.c k,d.q k,d.left k+d.may k,d.time,[]⟩ (Nat.le_refl _)
 have hi:=drain_idle (d.q k).length ⟨d.c k,d.q k,d.left k+d.may k,d.time,[]⟩
 unfold HD.doneOf HD.after
 rw [adds_of k _ f hh.hmost.1]
 change Spends _ (d.turn k) at hs
 change (d.turn k).q=[] ∨ (d.turn k).left≤0 at he
 change _→d.turn k=_ at hi
 generalize d.turn k=s at hs he hi
 refine ⟨fun j hj => ?_,fun j hj => ?_,fun j hj => ?_⟩
 ·by_cases e:j=k
  ·subst e
   simp only [upd_same]
   have h1:=hs.sum; have h2:=hs.len; have h3:=hs.debt
   simp only [tot,mx,List.length_nil] at h1 h2 h3
   have m1:mx s.done≤1601:=mx_le (by omega) (fun x hx => by have:=hs.ok.steps x hx; omega)
   have m0:=mx_nonneg s.done
   have t0:0≤tot s.done:=tot_nonneg (fun x hx => (hs.ok.steps x hx).1)
   have hm:=hh.hmay; have hw:=hh.hwaits; have hmo:=hh.hmost; have hd:=hh.hdebt; have hsu:=hh.hsum; have hsp:=hh.hspent; have hwe:=hh.hwent
   have er:(R j+1)*d.may j=R j*d.may j+d.may j:=by rw [Int.add_mul,Int.one_mul]
   have hdb:0≤s.left+max (f.most j) (mx s.done):=by
    by_cases hp:d.left j+d.may j≤0
    ·have:=hi hp
     have e1:s.left=d.left j+d.may j:=by rw [this]
     omega
    ·have:=h3 (by omega); omega
   refine ⟨hm,by omega,by omega,?_,?_,fun ha => ?_,fun ha h0 => ?_,by omega,by omega⟩
   ·unfold HS.rest; split <;> omega
   ·rw [er]; unfold HS.rest; split <;> omega
   ·rw [Bool.and_eq_true,decide_eq_true_eq] at ha
    have hq:¬ s.q=[]:=fun e => by rw [e] at ha; simp at ha
    unfold HS.rest; rw [if_neg hq,er]
    have:=hh.hall ha.1
    omega
   ·rw [Bool.and_eq_true,decide_eq_true_eq] at ha
    have hq:¬ s.q=[]:=fun e => by rw [e] at ha; simp at ha
    unfold HS.rest; rw [if_neg hq]
    rcases he with he | he
    ·exact absurd he hq
    ·exact he
  ·simp only [upd_other e]; exact h.hook j hj
 ·by_cases e:j=k
  ·subst e; simp only [upd_same]; exact hs.ok.short
  ·simp only [upd_other e]; exact h.short j hj
 ·by_cases e:j=k
  ·subst e; simp only [upd_same]; have h2:=hs.len; have:=h.few j hj; simp only [List.length_nil] at h2; omega
  ·simp only [upd_other e]; exact h.few j hj
theorem adds_app (f:FS) (a b:List (Int × Sd)):f.adds (a++b)=(f.adds a).adds b:=by unfold FS.adds; rw [List.foldl_append]
theorem adds_always (f:FS) (g:Nat→Bool):∀ (l:List (Int × Sd)),({ f with always:=g }:FS).adds l={ f.adds l with always:=g }:=by
 intro l
 induction l generalizing f with
 | nil => rfl
 | cons y l ih => exact ih (f.add y)
theorem adds_keep (l:List (Int × Sd)):∀ (f:FS),(f.adds l).always=f.always∧(f.adds l).came=f.came∧(f.adds l).rounds=f.rounds:=by
 induction l with
 | nil => intro f; exact ⟨rfl,rfl,rfl⟩
 | cons y l ih => intro f; exact ih (f.add y)
def FS.round (f:FS) (d:HD):FS:={ f.adds d.done with always:=fun h => f.always h && decide (0 < (d.round.q h).length),rounds:=f.rounds+1 }
theorem FInv.round {d:HD} {f:FS} {r:Int} (h:FInv d f (fun _ => r)):FInv d.round (f.round d) (fun _ => r+1):=by
 have h1:=h.turn (k:=0) (by omega)
 have h2:=h1.turn (k:=1) (by omega)
 have h3:=h2.turn (k:=2) (by omega)
 have e:(f.round d).spent=(f.adds d.done).spent∧(f.round d).most=(f.adds d.done).most∧(f.round d).came=(f.adds d.done).came∧(f.round d).went=(f.adds d.done).went:=⟨rfl,rfl,rfl,rfl⟩
 have ea:f.adds d.done=((f.adds (d.doneOf 0)).adds ((d.after 0).doneOf 1)).adds (((d.after 0).after 1).doneOf 2):=by unfold HD.done; rw [adds_app,adds_app]
 simp only [adds_always] at h3
 refine ⟨fun j hj => ?_,h3.short,h3.few⟩
 have hj3:=h3.hook j hj
 rw [e.1,e.2.1,e.2.2.1,e.2.2.2,ea]
 have hr:(upd (upd (upd (fun _ => r) 0 (r+1)) 1 (upd (fun _ => r) 0 (r+1) 1+1)) 2 (upd (upd (fun _ => r) 0 (r+1)) 1 (upd (fun _ => r) 0 (r+1) 1+1) 2+1)) j=r+1:=by
  have hj':j=0 ∨ j=1 ∨ j=2:=by omega
  rcases hj' with rfl | rfl | rfl <;> rfl
 rw [hr] at hj3
 have hq:(f.round d).always j=(f.always j && decide (0 < (d.round.q j).length)):=rfl
 rw [hq]
 have k1:=(adds_keep (d.doneOf 0) f).1
 simp only at hj3
 have hj':j=0 ∨ j=1 ∨ j=2:=by omega
 rcases hj' with rfl | rfl | rfl
 ·exact hj3
 ·exact hj3
 ·exact hj3
def Timeless (L:List Step):Prop:=∀ t ∈ L,¬ (t.code=27∧t.num=2)
theorem Timeless.nth {L:List Step} (h:Timeless L) (j:Nat):¬ ((nth L j).code=27∧(nth L j).num=2):=by
 unfold P.nth
 rw [List.getD_eq_getElem?_getD]
 by_cases hj:j < L.length
 ·rw [List.getElem?_eq_getElem hj]; exact h _ (List.getElem_mem _)
 ·rw [List.getElem?_eq_none (by omega)]; simp [step0]
theorem step_time (M:Mach) (told:Nat→Int) (t1 t2:Int) (t:Step) (pc:Int) (h:¬ (t.code=27∧t.num=2)):M.step told t1 t pc=M.step told t2 t pc:=by
 unfold Mach.step
 by_cases h27:t.code=27
 ·have hn:t.num ≠ 2:=fun e => h ⟨h27,e⟩
  have hc:M.call t1 t.num=M.call t2 t.num:=by unfold Mach.call; simp only [if_neg hn]
  rw [hc]
 ·simp only [if_neg h27]
theorem run_time (S:Nat→Step) (told:Nat→Int) (t1 t2:Int) (h:∀ j,¬ ((S j).code=27∧(S j).num=2)):∀ (k:Nat) (M:Mach) (pc st:Int),Mach.run S told t1 k M pc st=Mach.run S told t2 k M pc st
 | 0,_,_,_ => rfl
 | k+1,M,pc,st => by
  rw [Mach.run,Mach.run,step_time M told t1 t2 _ pc (h _)]
  cases M.step told t2 (S pc.toNat) pc with
  | done M2 n2 => rfl
  | err e => rfl
  | go M2 nx => exact run_time S told t1 t2 h k M2 nx (st+1)
theorem outc_time {L:List Step} (h:Timeless L) (n:Nat) (told cells:Nat→Int) (t1 t2:Int):outc (nth L) n told cells t1=outc (nth L) n told cells t2:=by
 unfold outc
 rw [run_time _ told t1 t2 h.nth]
theorem hrun_time (told:Nat→Int) (t1 t2:Int):∀ (l:List HP) (s:Sd),(∀ p ∈ l,Timeless p.code)→hrun told t1 l s=hrun told t2 l s
 | [],s,_ => rfl
 | p :: t,s,h => by
  rw [hrun,hrun,outc_time (h p (by simp)) _ _ _ t1 t2]
  have ih:=fun s => hrun_time told t1 t2 t s (fun q hq => h q (List.mem_cons_of_mem _ hq))
  cases outc (nth p.code) p.code.length told p.cells t2 with
  | inl e => simp only [ih]
  | inr r => obtain ⟨M,num,st⟩:=r; simp only [ih]
theorem hrun_timeless (told:Nat→Int) (time:Int):∀ (l:List HP) (s:Sd),(∀ p ∈ l,Timeless p.code)→∀ p ∈ (hrun told time l s).1,Timeless p.code
 | [],s,h => h
 | p :: t,s,h => by
  rw [hrun]
  have hp:=h p (by simp)
  have ht:=fun q hq => h q (List.mem_cons_of_mem _ hq)
  cases outc (nth p.code) p.code.length told p.cells time with
  | inl e =>
   intro q hq
   rcases List.mem_cons.1 hq with e | hq
   ·subst e; exact hp
   ·exact hrun_timeless told time t s ht q hq
  | inr r =>
   obtain ⟨M,num,st⟩:=r
   simp only
   split
   ·intro q hq
    rcases List.mem_cons.1 hq with e | hq
    ·subst e; exact hp
    ·exact ht q hq
   ·intro q hq
    rcases List.mem_cons.1 hq with e | hq
    ·subst e; exact hp
    ·exact hrun_timeless told time t _ ht q hq
structure SLike (a b:HS):Prop where
 c:b.c=a.c
 q:b.q=a.q
 left:b.left=a.left
 done:b.done=a.done
 quiet:∀ p ∈ a.c.l,Timeless p.code
theorem SLike.one {a b:HS} (h:SLike a b) (e:Nat→Int) (r:List (Nat→Int)):SLike (a.one e r) (b.one e r):=by
 have hr:=hrun_time e b.time a.time a.c.l .zero h.quiet
 refine ⟨?_,rfl,?_,?_,?_⟩ <;> unfold HS.one
 ·simp only [h.c,hr]
 ·simp only [h.c,hr,h.left]
 ·simp only [h.c,hr,h.done]
 ·exact hrun_timeless _ _ _ _ h.quiet
theorem drain_like:∀ (k:Nat) (a b:HS),SLike a b→SLike (drain k a) (drain k b)
 | 0,a,b,h => h
 | k+1,a,b,h => by
  unfold drain
  rw [h.q,h.left]
  cases a.q with
  | nil => exact h
  | cons e r =>
   simp only
   split
   ·exact drain_like k _ _ (h.one e r)
   ·exact h
structure Apart (h:Nat) (a b:HD):Prop where
 c:b.c h=a.c h
 q:b.q h=a.q h
 left:b.left h=a.left h
 may:b.may h=a.may h
 quiet:∀ p ∈ (a.c h).l,Timeless p.code
 alone:∀ k,k ≠ h→b.q k=[]
theorem Apart.zero (h:Nat) (may:Nat→Int):Apart h (HD.zero may) (HD.zero may):=⟨rfl,rfl,rfl,rfl,by simp [HD.zero],fun _ _ => rfl⟩
theorem Apart.event {h:Nat} {a b:HD} (x:Apart h a b) (k:Nat) (told:Nat→Int):Apart h (a.event k told) (if k=h then b.event k told else b):=by
 by_cases e:k=h
 ·subst e
  rw [if_pos rfl]
  unfold HD.event
  rw [x.q]
  split
  ·exact x
  ·refine ⟨x.c,?_,x.left,x.may,x.quiet,fun j hj => ?_⟩
   ·simp only [upd_same]
   ·simp only [upd_other hj]; exact x.alone j hj
 ·rw [if_neg e]
  unfold HD.event
  split
  ·exact x
  ·refine ⟨x.c,?_,x.left,x.may,x.quiet,x.alone⟩
   simp only [upd_other (Ne.symm e)]; exact x.q
theorem attach_quiet {c:HC} {L:List Step} {r:Int} (h:∀ p ∈ c.l,Timeless p.code) (hL:Timeless L):∀ p ∈ (c.attach L r).1.l,Timeless p.code:=by
 unfold HC.attach
 split
 ·exact h
 split
 ·exact h
 ·intro p hp
  unfold HC.put at hp
  rcases List.mem_append.1 hp with hp | hp
  ·exact h p (List.mem_of_mem_take hp)
  ·rcases List.mem_cons.1 hp with e | hp
   ·subst e; exact hL
   ·exact h p (List.mem_of_mem_drop hp)
theorem Apart.attach {h:Nat} {a b:HD} (x:Apart h a b) (k:Nat) {L:List Step} (hL:Timeless L) (r:Int):Apart h (a.attach k L r) (if k=h then b.attach k L r else b):=by
 by_cases e:k=h
 ·subst e
  rw [if_pos rfl]
  unfold HD.attach
  refine ⟨?_,x.q,x.left,x.may,?_,x.alone⟩
  ·simp only [upd_same,x.c]
  ·simp only [upd_same]; exact attach_quiet x.quiet hL
 ·rw [if_neg e]
  unfold HD.attach
  refine ⟨?_,x.q,x.left,x.may,?_,x.alone⟩
  ·simp only [upd_other (Ne.symm e)]; exact x.c
  ·simp only [upd_other (Ne.symm e)]; exact x.quiet
theorem Apart.turn_like {h:Nat} {a b:HD} (x:Apart h a b):SLike (a.turn h) (b.turn h):=by
 unfold HD.turn
 rw [x.q]
 exact drain_like _ _ _ ⟨x.c,rfl,by show b.left h+b.may h=a.left h+a.may h; rw [x.left,x.may],rfl,x.quiet⟩
theorem turn_idle {d:HD} {k:Nat} (h:d.q k=[]):(d.turn k).done=[]∧(d.turn k).q=[]:=by
 unfold HD.turn
 rw [h]
 exact ⟨rfl,rfl⟩
theorem Apart.after {h:Nat} {a b:HD} (x:Apart h a b) (k:Nat):Apart h (a.after k) (b.after k):=by
 unfold HD.after
 by_cases e:k=h
 ·subst e
  have y:=x.turn_like
  refine ⟨?_,?_,?_,x.may,?_,fun j hj => ?_⟩
  ·simp only [upd_same]; exact y.c
  ·simp only [upd_same]; exact y.q
  ·simp only [upd_same]; unfold HS.rest; rw [y.q,y.left]
  ·simp only [upd_same]; exact y.quiet
  ·simp only [upd_other hj]; exact x.alone j hj
 ·have e':=Ne.symm e
  refine ⟨?_,?_,?_,x.may,?_,fun j hj => ?_⟩
  ·simp only [upd_other e']; exact x.c
  ·simp only [upd_other e']; exact x.q
  ·simp only [upd_other e']; exact x.left
  ·simp only [upd_other e']; exact x.quiet
  ·by_cases ej:j=k
   ·subst ej; simp only [upd_same]; exact (turn_idle (x.alone j hj)).2
   ·simp only [upd_other ej]; exact x.alone j hj
theorem Apart.round {h:Nat} {a b:HD} (x:Apart h a b):Apart h a.round b.round:=((x.after 0).after 1).after 2
def saids (h:Nat) (l:List (Int × Sd)):List Sd:=(l.filter fun y => y.1 == (h:Int)).map (·.2)
theorem saids_app (h:Nat) (a b:List (Int × Sd)):saids h (a++b)=saids h a++saids h b:=by unfold saids; rw [List.filter_append,List.map_append]
theorem saids_of {h:Nat} {a b:HD} (x:Apart h a b) (k:Nat):saids h (a.doneOf k)=(b.doneOf k).map (·.2)∧∀ y ∈ b.doneOf k,y.1=(h:Int):=by
 unfold HD.doneOf saids
 by_cases e:k=h
 ·subst e
  rw [x.turn_like.done]
  refine ⟨?_,fun y hy => ?_⟩
  ·rw [List.filter_eq_self.2]
   intro y hy
   obtain ⟨s,_,rfl⟩:=List.mem_map.1 hy
   simp
  ·obtain ⟨s,_,rfl⟩:=List.mem_map.1 hy
   rfl
 ·rw [(turn_idle (x.alone k e)).1]
  refine ⟨?_,by simp⟩
  rw [List.filter_eq_nil_iff.2]
  ·rfl
  ·intro y hy
   obtain ⟨s,_,rfl⟩:=List.mem_map.1 hy
   simp; omega
theorem Apart.done {h:Nat} {a b:HD} (x:Apart h a b):saids h a.done=b.done.map (·.2)∧∀ y ∈ b.done,y.1=(h:Int):=by
 unfold HD.done
 have h0:=saids_of x 0
 have h1:=saids_of (x.after 0) 1
 have h2:=saids_of ((x.after 0).after 1) 2
 rw [saids_app,saids_app,List.map_append,List.map_append,h0.1,h1.1,h2.1]
 refine ⟨rfl,fun y hy => ?_⟩
 rcases List.mem_append.1 hy with hy | hy
 ·rcases List.mem_append.1 hy with hy | hy
  ·exact h0.2 y hy
  ·exact h1.2 y hy
 ·exact h2.2 y hy
end Go.Proofs.YtpdlmbbgioenoaaGreatDoor.P
namespace Go.Proofs.YtpdlmbbgioenoaaGreatDoor.W
open Go.RowKit Go.Proofs.YtpdlmbbgioenoaaGreatDoor.P
theorem run_copy_rows {P:Program} (w:World) (dT sT ty elem:TypeId) (size g o dLen dCap:Nat) (a:Addr) (sLen sCap:Nat) (cur:List Value) (t:TypeId) (cs:List Value)
  (hu:P.underlying dT=some (.slice elem)) (hs:(P.info? elem).map (·.size)=some size) (hg:w.heap[g]?=some (.cells cur.toArray t (0,0))) (hn:cs.length=Nat.min sLen dLen*size)
  (hsrc:∀ j v,cs[j]?=some v→w.cell? (a.add j)=some v) (hfit:o+cs.length≤cur.length) (h1:∀ v ∈ cs,v.oneCell'=true) :
  (Builtin.copy_ #[dT,sT] ty #[.slice (some ⟨g,o,none⟩) dLen dCap,.slice (some a) sLen sCap]).run P w=.ok (goInt (Nat.min sLen dLen)) (w.setRow g (cur.take o++cs++cur.drop (o+cs.length)).toArray):=by
 have hl:=run_loadCells_list (P:=P) w a cs hsrc
 have hst:=run_storeCells_at P g o t cs 0 cur.toArray w hg (by simpa using hfit) h1
 cases hq:P.info? elem with
 | none => simp [hq] at hs
 | some i =>
  have hi:i.size=size:=by simpa [hq] using hs
  rw [hn] at hl
  simp [Builtin.copy_,run_underlying hu,Builtin.lenOf,Builtin.firstCells,sizeOf,typeInfo,hq,hi,hl,hst]
theorem wpList_copy_by {P:Program} (w:World) {ops:Array Oper} {rest:List Oper} {o:Oper} {a:Act} {Q:Exit→Act→World→Prop} (hgd:o.guard=none) (d s:Operand) (t t':TypeId)
  (ho:o.op=.call { callee:=.builtin .copy,args:=#[d,s],argTypes:=#[t,t'] }) (v u:Value) (hd:a.eval d=v) (hs:a.eval s=u) {v':Value} {w':World}
  (hr:(Builtin.copy_ #[t,t'] o.type #[v,u]).run P w=.ok v' w') (h:wpList P ops Q rest (a.put o.dst v') w'):wpList P ops Q (o :: rest) a w:=by
 refine wpList_plain hgd fun K hK => ?_
 unfold Oper.wp
 simp [execOp,ho,resolve,invoke,builtin,hd,hs,hr,Result.andThen]
 exact hK _ _ h
theorem step_copy_by {P:Program} {ops:Array Oper} {o:Oper} {a:Act} {w:World} {K:Act→World→Prop} {Q:Exit→Act→World→Prop} {E:Prop}
  (hg:o.guard=none) (d x:Operand) (dT sT:TypeId) (hop:o.op=Op.call { callee:=Callee.builtin Builtin.copy,args:=#[d,x],argTypes:=#[dT,sT] })
  (v u:Value) (hd:a.eval d=v) (hx:a.eval x=u) {v':Value} {w':World} (hr:(Builtin.copy_ #[dT,sT] o.type #[v,u]).run P w=.ok v' w') (hK:K (a.put o.dst v') w') :
  if Region.wanted o (yielded ops a.tmps)=true then Oper.wp P o a w K Q else E:=by
 have hw:Region.wanted o (yielded ops a.tmps)=true:=by simp [Region.wanted,hg]
 rw [if_pos hw]
 unfold Oper.wp
 simp [execOp,hop,resolve,invoke,builtin,hd,hx,hr,Result.andThen]
 exact hK
theorem infoProg:((Tryz.prog).info? 134).map (fun i => (i.zero,i.size,i.bytes))=some (some (.agg #[.int .i64 0,.int .i64 0,.slice none 0 0,.int .i64 0,.int .i64 0,.int .i64 0,.int .i64 0,.int .i64 0,.int .i64 0,.int .i64 0,.int .i64 0,.int .i64 0,.int .i64 0,.int .i64 0,.int .i64 0,.int .i64 0,.int .i64 0,.int .i64 0,.int .i64 0]),19,168):=by kernel_rfl
theorem sizeProg:((Tryz.prog).info? 134).map (·.size)=some 19:=by kernel_rfl
theorem run_append_row {P:Program} (w:World) (t ty e:TypeId) (i:TypeInfo) (ht:P.underlying t=some (.slice e)) (hi:P.info? e=some i)
  (g sLen sCap:Nat) (cur:Array Value) (hg:w.heap[g]?=some (.cells cur e (0,0)))
  (a:Addr) (m c:Nat) (news:List Value) (hl:news.length=m*i.size) (hnews:∀ j u,news[j]?=some u→w.cell? (a.add j)=some u) (h1:∀ u ∈ news,u.oneCell'=true)
  (hroom:sLen+m≤sCap) (hfit:sLen*i.size+news.length≤cur.size) :
  (Builtin.append_ #[t,t] ty #[.slice (some ⟨g,0,none⟩) sLen sCap,.slice (some a) m c]).run P w =
   .ok (.slice (some ⟨g,0,none⟩) (sLen+m) sCap) (w.setRow g (cur.toList.take (sLen*i.size)++news++cur.toList.drop (sLen*i.size+news.length)).toArray):=by
 have hf:=run_firstCells_some (P:=P) w i.size m a m c news hl hnews
 have hst:=run_storeCells_at P g (sLen*i.size) e news 0 cur w hg (by simpa using hfit) h1
 simp only [Nat.add_zero] at hst
 simp [Builtin.append_,run_underlying ht,sizeOf,typeInfo,hi,Builtin.lenOf,hroom,hf,Addr.add_lit,hst]
theorem zeroCells_size (z:Array Value) (k:Nat):(Builtin.zeroCells z k).size=k*z.size:=by simp [Builtin.zeroCells]
theorem row_append (B:Nat) (v:Value) (n:Nat) (xs new:List Value) (ad c:Nat) (W:World) (hn:n < 8) (hB:B≤W.heap.size) (hown:W.ownsRow B 134 19 v n xs) (hl:new.length=19)
  (hc:∀ j u,new[j]?=some u→W.cell? ⟨ad,j,none⟩=some u) (h1:∀ u ∈ new,u.oneCell'=true) :
  ∃ v' W',(∀ ty,(Builtin.append_ #[109,109] ty #[v,.slice (some ⟨ad,0,none⟩) 1 c]).run Tryz.prog W=.ok v' W')∧W'.ownsRow B 134 19 v' (n+1) (xs++new)∧W.grownBy W' v.ownBlock∧(v'.ownBlock=v.ownBlock ∨ ∀ b,v'.ownBlock=some b→W.heap.size≤b):=by
 obtain ⟨i0,hi,hq⟩:=Option.map_eq_some_iff.1 infoProg
 have hz0:i0.zero=some _:=congrArg (·.1) hq
 have hz1:i0.size=19:=congrArg (·.2.1) hq
 have hz2:i0.bytes=168:=congrArg (·.2.2) hq
 have hadd:∀ b j,(⟨b,0,none⟩:Addr).add j=⟨b,j,none⟩:=fun b j => by unfold Addr.add; split <;> simp_all
 have hc':∀ j u,new[j]?=some u→W.cell? ((⟨ad,0,none⟩:Addr).add j)=some u:=fun j u hj => by rw [hadd]; exact hc j u hj
 obtain ⟨z,hz,hzs⟩:∃ z,i0.zero=some z∧z.cells.size=19:=⟨_,hz0,rfl⟩
 have hsrc:Src Tryz.prog i0.size 109 (.slice (some ⟨ad,0,none⟩) 1 c) 1 new W:=by
  rw [hz1]
  exact Src.ofSlice W Tryz.underlying109 ⟨ad,0,none⟩ 1 c new (by rw [hl]) hc' h1
 have grow:∀ (og:Option Addr) (cap:Nat),cap≤n→(Builtin.firstCells i0.size n (.slice og n cap)).run Tryz.prog W.drew=.ok xs.toArray W.drew→v=.slice og n cap →
   ∃ v' W',(∀ ty,(Builtin.append_ #[109,109] ty #[v,.slice (some ⟨ad,0,none⟩) 1 c]).run Tryz.prog W=.ok v' W')∧W'.ownsRow B 134 19 v' (n+1) (xs++new)∧W.grownBy W' v.ownBlock∧(v'.ownBlock=v.ownBlock ∨ ∀ b,v'.ownBlock=some b→W.heap.size≤b):=by
  rintro og cap hcap hold rfl
  refine ⟨_,_,fun ty => run_append_grow_src W _ _ ty 134 i0 z Tryz.underlying109 hi hz og n cap xs hold _ 1 new hsrc (by omega) (by omega) (by rw [hz2]; exact growslice_fits (by omega) (by omega)),?_,?_,.inr fun b hb => (by cases hb; exact Nat.le_refl _)⟩
  ·refine ⟨by rw [List.length_append,hown.1,hl,Nat.succ_mul],.inr ⟨W.heap.size,grownCap W (n+1) cap 134,_,rfl,hB,heap_alloc_new W.drew _,grownCap_ge W _ _ _,grownCap_le_maxLen W _ _ _ (by unfold maxLen; omega),?_,?_⟩⟩
   ·have hge:=grownCap_ge W (n+1) cap 134
    simp only [Array.size_append,zeroCells_size,hzs,List.size_toArray,List.length_append,hown.1,hl]
    rw [Nat.sub_mul]; omega
   ·simp only [Array.toList_append]
    rw [List.take_append_of_le_length,List.take_of_length_le]
    ·simp [hown.1,hl] <;> omega
    ·simp [hown.1,hl] <;> omega
  ·exact ⟨rfl,rfl,rfl,(World.grownBy_alloc W.drew _ none).size,fun k hk _ => (World.grownBy_alloc W.drew _ none).block k hk (by simp)⟩
 rcases hown.2 with ⟨rfl,rfl⟩ | ⟨g,cap,cur,rfl,hbg,hg,hcap,hmax,hcs,hxs⟩
 ·refine grow none 0 (by omega) ?_ rfl
  have hx0:xs=[]:=List.eq_nil_of_length_eq_zero (by rw [hown.1])
  subst hx0
  rw [hz1]
  exact run_firstCells_none W.drew 19 0 0 0
 ·by_cases hr:n+1≤cap
  ·have hcl:cur.toList.length=cap*19:=by rw [Array.length_toList,hcs]
   refine ⟨_,_,fun ty => run_append_row W _ ty 134 i0 Tryz.underlying109 hi g n cap cur hg ⟨ad,0,none⟩ 1 c new (by rw [hz1,hl]) hc' h1 hr (by rw [hz1,hl]; omega),?_,⟨rfl,rfl,rfl,by simp [World.setRow],fun k hk ne => setRow_other _ g k _ (fun e => ne (congrArg some e))⟩,.inl rfl⟩
   refine ⟨by rw [List.length_append,hown.1,hl,Nat.succ_mul],.inr ⟨g,cap,_,rfl,hbg,setRow_heap W g _ _ _ _ hg,hr,hmax,?_,?_⟩⟩
   ·rw [hz1,hl]
    simp only [List.size_toArray,List.length_append,List.length_take,List.length_drop,hcl,hl]
    omega
   ·rw [hz1,hl,hxs]
    show List.take ((n+1)*19) (xs++new++_)=_
    rw [List.take_append_of_le_length,List.take_of_length_le]
    ·rw [List.length_append,hown.1,hl]; omega
    ·rw [List.length_append,hown.1,hl]; omega
  ·refine grow (some ⟨g,0,none⟩) cap (by omega) ?_ rfl
   rw [hz1]
   refine run_firstCells_some W.drew 19 n ⟨g,0,none⟩ n cap xs hown.1 fun j u hj => ?_
   rw [hadd]
   show W.cell? _=_
   rw [cell_of_row W g j cur 134 (0,0) hg]
   rw [← hxs,List.getElem?_take] at hj
   split at hj
   ·simpa using hj
   ·cases hj
theorem wpList_append_by {P:Program} (w:World) {ops:Array Oper} {rest:List Oper} {o:Oper} {a:Act} {Q:Exit→Act→World→Prop} (hgd:o.guard=none) (d s:Operand) (t t':TypeId)
  (ho:o.op=.call { callee:=.builtin .append,args:=#[d,s],argTypes:=#[t,t'] }) (v u:Value) (hd:a.eval d=v) (hs:a.eval s=u) {v':Value} {w':World}
  (hr:(Builtin.append_ #[t,t'] o.type #[v,u]).run P w=.ok v' w') (h:wpList P ops Q rest (a.put o.dst v') w'):wpList P ops Q (o :: rest) a w:=by
 refine wpList_plain hgd fun K hK => ?_
 unfold Oper.wp
 simp [execOp,ho,resolve,invoke,builtin,hd,hs,hr,Result.andThen]
 exact hK _ _ h
set_option maxHeartbeats 4000000 in
theorem Insert_end (B:Nat) (v:Value) (n:Nat) (xs new:List Value) (ad c:Nat) (w:World) (hn:n < 8) (hB:B≤w.heap.size) (hown:w.ownsRow B 134 19 v n xs) (hl:new.length=19)
  (hc:∀ j u,new[j]?=some u→w.cell? ⟨ad,j,none⟩=some u) (h1:∀ u ∈ new,u.oneCell'=true) :
  Calls Tryz.prog 73 #[v,.int .i64 n,.slice (some ⟨ad,0,none⟩) 1 c] w fun e w' => ∃ v',e=.returned v'∧w'.ownsRow B 134 19 v' (n+1) (xs++new)∧w.grownBy w' v.ownBlock∧(v'.ownBlock=v.ownBlock ∨ ∀ b,v'.ownBlock=some b→w.heap.size≤b):=by
 obtain ⟨v8,W8,hrun,hpost⟩:=row_append B v n xs new ad c w hn hB hown hl hc h1
 have HP:=Lib.hid hpost
 clear hpost
 rcases hown.2 with ⟨rfl,rfl⟩ | ⟨g,cap,cur,rfl,hbg,hg,hcap,hmax,hcs,hxs⟩
 ·clear hown hc
  go_enter Tryz.func73,Tryz.ntmps73
  go_wp2_with (at_builtin; refine wpList_append_by _ rfl _ _ 109 109 rfl _ _ rfl rfl (hrun _) ?_)
  go_ret
  exact ⟨v8,rfl,HP.out⟩
 ·have hm63:cap≤9223372036854775807:=by unfold maxLen at hmax; omega
  clear hown hc hg hcs hxs
  go_enter Tryz.func73,Tryz.ntmps73
  go_wp2_with (at_builtin; refine wpList_append_by _ rfl _ _ 109 109 rfl _ _ rfl rfl (hrun _) ?_)
  all_goals go_ret
  all_goals exact ⟨v8,rfl,HP.out⟩
theorem shape_of {w:World} {b:Nat} {c:Array Value} {t:TypeId} (h:w.heap[b]?=some (.cells c t (0,0))):w.shape? b=some (t,c.size):=by simp [World.shape?,h]
set_option maxHeartbeats 4000000 in
theorem Insert_room (B g n cap i:Nat) (cur:Array Value) (xs new:List Value) (ad c:Nat) (cad:Array Value) (w:World) (hn:n < 8) (hi:i < n) (hroom:n+1≤cap) (hmax:cap≤maxLen) (hBg:B≤g) (hg:w.heap[g]?=some (.cells cur 134 (0,0)))
  (hcs:cur.size=cap*19) (hxs:cur.toList.take (n*19)=xs) (hl:new.length=19) (hx1:∀ u ∈ xs,u.oneCell'=true)
  (had:ad ≠ g) (ha:w.heap[ad]?=some (.cells cad 134 (0,0))) (hca:cad.toList=new) (h1:∀ u ∈ new,u.oneCell'=true) :
  Calls Tryz.prog 73 #[.slice (some ⟨g,0,none⟩) n cap,.int .i64 i,.slice (some ⟨ad,0,none⟩) 1 c] w fun e w' => ∃ v',e=.returned v'∧w'.ownsRow B 134 19 v' (n+1) (xs.take (i*19)++new++xs.drop (i*19))∧w.grownBy w' (some g)∧((v'.ownBlock=some g) ∨ ∀ b,v'.ownBlock=some b→w.heap.size≤b):=by
 have hm63:cap≤9223372036854775807:=by unfold maxLen at hmax; omega
 have hz2:¬ ((i:Int)=(n:Int)):=by omega
 have hw1:IntKind.i64.wrap ((i:Int)+1)=(i:Int)+1:=by rw [IntKind.wrap_i64]; omega
 have mixed:Tryz.prog.follows .mixedOrders=true:=by kernel_rfl
 have hb1:(0:Int)≤(i:Int)+1:=by omega
 have hb3:(i:Int)≤(n:Int)+1:=by omega
 have hin:i≤n:=by omega
 have htn:((i:Int)+1).toNat=i+1:=by omega
 have hb2:¬ (cap=i+1):=by omega
 have hb4:¬ (cap=i):=by omega
 have hov:∀ lb cb,(callFunc 122 #[.slice (some ⟨ad,0,none⟩) 1 c,.slice (some ⟨g,(i+1)*19,none⟩) lb cb]).run Tryz.prog w=.ok (.value (.bool false)) w:=fun lb cb => by
  rw [run_callFunc_extern Tryz.func122 (by kernel_rfl) (by kernel_rfl) (by kernel_rfl) (e:=Extern.SlicesOverlaps.overlaps #[109,109] #[4]) (by kernel_rfl)]
  rw [Lib.run_overlaps_apart w 109 4 134 Tryz.underlying109 19 (fun w => by kernel_rfl) ⟨ad,0,none⟩ ⟨g,(i+1)*19,none⟩ 1 c lb cb had _ _ _ _ (shape_of ha) (shape_of hg) (by rw [hcs]; omega) (by simp [World.frozen?,ha]) (by simp [World.frozen?,ha])]
  rfl
 go_enter Tryz.func73,Tryz.ntmps73
 have hML:(xs.drop (i*19)).length=(n - i)*19:=by
  have h1:(cur.toList.take (n*19)).length=n*19:=by rw [List.length_take,Array.length_toList,hcs]; omega
  rw [List.length_drop,← hxs,h1,Nat.sub_mul]
 have hcl:cur.toList.length=cap*19:=by rw [Array.length_toList,hcs]
 have hxl:xs.length=n*19:=by rw [← hxs,List.length_take,hcl]; omega
 have hxa:∀ j u,xs[j]?=some u→w.cell? ⟨g,j,none⟩=some u:=fun j u hj => by
  rw [cell_of_row w g j cur 134 (0,0) hg]
  rw [← hxs,List.getElem?_take] at hj
  split at hj
  ·simpa using hj
  ·cases hj
 have hga:∀ k j,(⟨g,k,none⟩:Addr).add j=⟨g,k+j,none⟩:=fun k j => by unfold Addr.add; split <;> simp_all
 have hada:∀ j,(⟨ad,0,none⟩:Addr).add j=⟨ad,j,none⟩:=fun j => by unfold Addr.add; split <;> simp_all
 obtain ⟨cur1,hcur1⟩:∃ l,l=cur.toList.take ((i+1)*19)++xs.drop (i*19)++cur.toList.drop ((i+1)*19+(xs.drop (i*19)).length):=⟨_,rfl⟩
 have hc1l:cur1.length=cap*19:=by
  rw [hcur1,List.length_append,List.length_append,hML,List.length_take,List.length_drop,hcl,Nat.sub_mul]; omega
 have hcp1:∀ ty dc sc,(Builtin.copy_ #[109,109] ty #[.slice (some ⟨g,(i+1)*19,none⟩) (n+1 - (i+1)) dc,.slice (some ⟨g,i*19,none⟩) (n+1 - i) sc]).run Tryz.prog w.drew=.ok (goInt (Nat.min (n+1 - i) (n+1 - (i+1)))) (w.drew.setRow g cur1.toArray):=fun ty dc sc => by
  have:=run_copy_rows (P:=Tryz.prog) w.drew 109 109 ty 134 19 g ((i+1)*19) (n+1 - (i+1)) dc ⟨g,i*19,none⟩ (n+1 - i) sc cur.toList 134 (xs.drop (i*19)) Tryz.underlying109 sizeProg (by rw [Array.toArray_toList]; exact hg)
   (by rw [hML,show Nat.min (n+1 - i) (n+1 - (i+1))=n - i by simp only [Nat.min_def]; split <;> omega])
   (fun j u hj => by rw [hga]; exact hxa _ u (by rwa [List.getElem?_drop] at hj))
   (by rw [hML,hcl,Nat.sub_mul]; omega) (fun u hu => hx1 u (List.mem_of_mem_drop hu))
  rw [← hcur1] at this
  exact this
 obtain ⟨W1,hW1⟩:∃ W1,W1=w.drew.setRow g cur1.toArray:=⟨_,rfl⟩
 have hg1:W1.heap[g]?=some (.cells cur1.toArray 134 (0,0)):=by rw [hW1]; exact setRow_heap w.drew g _ _ _ _ hg
 have ha1:W1.heap[ad]?=some (.cells cad 134 (0,0)):=by rw [hW1,setRow_other w.drew g ad _ had]; exact ha
 obtain ⟨cur2,hcur2⟩:∃ l,l=cur1.take (i*19)++new++cur1.drop (i*19+new.length):=⟨_,rfl⟩
 have hcp2:∀ ty dc,(Builtin.copy_ #[109,109] ty #[.slice (some ⟨g,i*19,none⟩) (n+1 - i) dc,.slice (some ⟨ad,0,none⟩) 1 c]).run Tryz.prog W1=.ok (goInt (Nat.min 1 (n+1 - i))) (W1.setRow g cur2.toArray):=fun ty dc => by
  have:=run_copy_rows (P:=Tryz.prog) W1 109 109 ty 134 19 g (i*19) (n+1 - i) dc ⟨ad,0,none⟩ 1 c cur1 134 new Tryz.underlying109 sizeProg hg1
   (by rw [hl,show Nat.min 1 (n+1 - i)=1 by simp only [Nat.min_def]; split <;> omega])
   (fun j u hj => by rw [hada,cell_of_row W1 ad j cad 134 (0,0) ha1]; rw [← hca] at hj; simpa using hj)
   (by rw [hl,hc1l]; omega) h1
  rw [← hcur2] at this
  exact this
 rw [← hW1] at hcp1
 have hfin:cur2.toArray.size=cap*19∧cur2.toArray.toList.take ((n+1)*19)=xs.take (i*19)++new++xs.drop (i*19):=by
  have e1:cur1.take (i*19)=xs.take (i*19):=by
   rw [hcur1,List.append_assoc,List.take_append_of_le_length (by rw [List.length_take,hcl]; omega),List.take_take,← hxs,List.take_take]
   congr 1; omega
  have e2:cur1.drop (i*19+new.length)=xs.drop (i*19)++cur.toList.drop ((i+1)*19+(xs.drop (i*19)).length):=by
   rw [hcur1,List.append_assoc,List.drop_append,List.drop_eq_nil_of_le (by rw [List.length_take,hcl,hl]; omega),List.length_take,hcl,hl,show i*19+19 - min ((i+1)*19) (cap*19)=0 by omega]
   simp
  have e3:cur2.length=cap*19:=by
   rw [hcur2,List.length_append,List.length_append,List.length_take,List.length_drop,hc1l,hl]; omega
  refine ⟨by simpa using e3,?_⟩
  rw [hcur2,e1,e2]
  show List.take ((n+1)*19) (xs.take (i*19)++new++(xs.drop (i*19)++_))=_
  rw [← List.append_assoc,List.take_append_of_le_length,List.take_of_length_le]
  ·simp only [List.length_append,List.length_take,hxl,hl,hML,Nat.sub_mul]; omega
  ·simp only [List.length_append,List.length_take,hxl,hl,hML,Nat.sub_mul]; omega
 have HW1:=Lib.hid hW1
 have HFIN:=Lib.hid hfin
 have HG1:=Lib.hid hg1
 clear hW1 hcur1 hcur2 hfin hg1 ha1 hc1l hML hcl hxl hxa hg ha hca hxs hcs
 go_wp2_with (simp only [hov])
 go_region_law_o (refine step_copy_by rfl _ _ 109 109 rfl (.slice (some ⟨g,(i+1)*19,none⟩) (n+1 - (i+1)) (cap - (i+1))) (.slice (some ⟨g,i*19,none⟩) (n+1 - i) (cap - i)) (by simp [Act.eval,Act.put]) (by simp [Act.eval,Act.put]) (hcp1 _ _ _) ?_)
 go_wp2_with (at_builtin; refine wpList_copy_by _ rfl _ _ 109 109 rfl _ _ rfl rfl (hcp2 _ _) ?_)
 go_ret
 refine ⟨_,rfl,⟨?_,.inr ⟨g,cap,cur2.toArray,rfl,hBg,setRow_heap W1 g _ _ _ _ HG1.out,hroom,hmax,HFIN.out.1,HFIN.out.2⟩⟩,?_,.inl rfl⟩
 ·rw [← HFIN.out.2,List.length_take]; have:=HFIN.out.1; simp at this ⊢; omega
 ·rw [HW1.out]
  refine ⟨rfl,rfl,rfl,by simp [World.setRow],fun k hk ne => ?_⟩
  have hne:k ≠ g:=fun e => ne (congrArg some e)
  rw [setRow_other _ g k _ hne,setRow_other _ g k _ hne]
  rfl
set_option maxHeartbeats 4000000 in
theorem Insert_grow (B g n cap i:Nat) (cur:Array Value) (xs new:List Value) (ad c:Nat) (cad:Array Value) (w:World) (hn:n < 8) (hi:i < n) (hroom:cap < n+1) (hmax:n≤cap) (hB:B≤w.heap.size) (hg:w.heap[g]?=some (.cells cur 134 (0,0)))
  (hcs:cur.size=cap*19) (hxs:cur.toList.take (n*19)=xs) (hl:new.length=19) (hx1:∀ u ∈ xs,u.oneCell'=true)
  (ha:w.heap[ad]?=some (.cells cad 134 (0,0))) (hca:cad.toList=new) (h1:∀ u ∈ new,u.oneCell'=true) :
  Calls Tryz.prog 73 #[.slice (some ⟨g,0,none⟩) n cap,.int .i64 i,.slice (some ⟨ad,0,none⟩) 1 c] w fun e w' => ∃ v',e=.returned v'∧w'.ownsRow B 134 19 v' (n+1) (xs.take (i*19)++new++xs.drop (i*19))∧w.grownBy w' (some g)∧((v'.ownBlock=some g) ∨ ∀ b,v'.ownBlock=some b→w.heap.size≤b):=by
 obtain ⟨i0,hii,hq⟩:=Option.map_eq_some_iff.1 infoProg
 have hz0:i0.zero=some _:=congrArg (·.1) hq
 have hz1:i0.size=19:=congrArg (·.2.1) hq
 have hz2:i0.bytes=168:=congrArg (·.2.2) hq
 have hz3:(cap:Int) < (n:Int)+1:=by omega
 have hzi:¬ ((i:Int)=(n:Int)):=by omega
 have hgl:g < w.heap.size:=(Array.getElem?_eq_some_iff.1 hg).1
 have hadl:ad < w.heap.size:=(Array.getElem?_eq_some_iff.1 ha).1
 have mixed:Tryz.prog.follows .mixedOrders=true:=by kernel_rfl
 have hcl:cur.toList.length=cap*19:=by rw [Array.length_toList,hcs]
 have hxl:xs.length=n*19:=by rw [← hxs,List.length_take,hcl]; omega
 have hML:(xs.drop (i*19)).length=(n - i)*19:=by rw [List.length_drop,hxl,Nat.sub_mul]
 have hxa:∀ j u,xs[j]?=some u→w.cell? ⟨g,j,none⟩=some u:=fun j u hj => by
  rw [cell_of_row w g j cur 134 (0,0) hg]
  rw [← hxs,List.getElem?_take] at hj
  split at hj
  ·simpa using hj
  ·cases hj
 have hga:∀ b k j,(⟨b,k,none⟩:Addr).add j=⟨b,k+j,none⟩:=fun b k j => by unfold Addr.add; split <;> simp_all
 have hik:i+(n+1 - i)=n+1:=by omega
 have hkk:(n:Int)+1 - (i:Int)=((n+1 - i:Nat):Int):=by omega
 have hold:(Builtin.firstCells i0.size i (.slice (some ⟨g,0,none⟩) i cap)).run Tryz.prog w.drew=.ok (xs.take (i*19)).toArray w.drew:=by
  rw [hz1]
  exact run_firstCells_some w.drew 19 i ⟨g,0,none⟩ i cap (xs.take (i*19)) (by rw [List.length_take,hxl]; omega) (fun j u hj => by
   rw [hga,Nat.zero_add]
   rw [List.getElem?_take] at hj
   split at hj
   ·exact hxa j u hj
   ·cases hj)
 obtain ⟨z,hz⟩:∃ z,i0.zero=some z∧z.cells.size=19:=⟨_,hz0,rfl⟩
 obtain ⟨hz,hzs⟩:=hz
 have hrz:∀ ty,(Builtin.append_ #[109,3] ty #[.slice (some ⟨g,0,none⟩) i cap,.int .i64 ((n:Int)+1 - (i:Int))]).run Tryz.prog w =
   .ok (.slice (some ⟨w.heap.size,0,none⟩) (n+1) (grownCap w (n+1) cap 134)) (w.drew.alloc (.cells ((xs.take (i*19)).toArray++Builtin.zeroCells z.cells (n+1 - i)++Builtin.zeroCells z.cells (grownCap w (n+1) cap 134 - (n+1))) 134)):=fun ty => by
  have h:=Lib.run_append_grow_zeros w 109 3 ty 134 i0 z .i64 .i64 Tryz.underlying109 Tryz.underlying3 hii hz (some ⟨g,0,none⟩) i cap (xs.take (i*19)) hold (n+1 - i) (by omega) (by omega) (by omega) (by omega) (by rw [hz2]; omega) (by rw [hz2,hik]; exact growslice_fits (by omega) (by omega))
  rw [hik] at h
  rw [hkk]
  exact h
 obtain ⟨G,hG⟩:∃ G,G=grownCap w (n+1) cap 134:=⟨_,rfl⟩
 have hGn:n+1≤G:=by rw [hG]; exact grownCap_ge w _ _ _
 have hGm:G≤maxLen:=by rw [hG]; exact grownCap_le_maxLen w (n+1) cap 134 (by unfold maxLen; omega)
 have hG63:G≤9223372036854775807:=by unfold maxLen at hGm; omega
 obtain ⟨R,hR⟩:∃ R:Array Value,R=(xs.take (i*19)).toArray++Builtin.zeroCells z.cells (n+1 - i)++Builtin.zeroCells z.cells (G - (n+1)):=⟨_,rfl⟩
 rw [← hG] at hrz
 rw [← hR] at hrz
 have hRl:R.toList.length=G*19:=by
  rw [hR,Array.length_toList]
  simp only [Array.size_append,zeroCells_size,hzs,List.size_toArray,List.length_take,hxl]
  rw [Nat.sub_mul,Nat.sub_mul]; omega
 have hR1:R.toList.take (i*19)=xs.take (i*19):=by
  rw [hR]
  simp only [Array.toList_append,List.append_assoc]
  rw [List.take_append_of_le_length (by rw [List.length_take,hxl]; omega),List.take_of_length_le (by rw [List.length_take]; omega)]
 obtain ⟨cur1,hcur1⟩:∃ l,l=R.toList.take (i*19)++new++R.toList.drop (i*19+new.length):=⟨_,rfl⟩
 have hc1l:cur1.length=G*19:=by
  rw [hcur1,List.length_append,List.length_append,hl,List.length_take,List.length_drop,hRl]; omega
 obtain ⟨cur2,hcur2⟩:∃ l,l=cur1.take ((i+1)*19)++xs.drop (i*19)++cur1.drop ((i+1)*19+(xs.drop (i*19)).length):=⟨_,rfl⟩
 have hcpA:∀ (W:World),W.heap=(w.alloc (.cells R 134)).heap→∀ ty dc,(Builtin.copy_ #[109,109] ty #[.slice (some ⟨w.heap.size,i*19,none⟩) (n+1 - i) dc,.slice (some ⟨ad,0,none⟩) 1 c]).run Tryz.prog W=.ok (goInt (Nat.min 1 (n+1 - i))) (W.setRow w.heap.size cur1.toArray):=fun W hW ty dc => by
  have hRg:W.heap[w.heap.size]?=some (.cells R.toList.toArray 134 (0,0)):=by rw [hW,Array.toArray_toList]; exact heap_alloc_new w _
  have hag:W.heap[ad]?=some (.cells cad 134 (0,0)):=by rw [hW,Below.heap_alloc w _ ad hadl]; exact ha
  have:=run_copy_rows (P:=Tryz.prog) W 109 109 ty 134 19 w.heap.size (i*19) (n+1 - i) dc ⟨ad,0,none⟩ 1 c R.toList 134 new Tryz.underlying109 sizeProg hRg
   (by rw [hl,show Nat.min 1 (n+1 - i)=1 by simp only [Nat.min_def]; split <;> omega])
   (fun j u hj => by rw [hga,Nat.zero_add,cell_of_row W ad j cad 134 (0,0) hag]; rw [← hca] at hj; simpa using hj)
   (by rw [hl,hRl]; omega) h1
  rw [← hcur1] at this
  exact this
 have hcpB:∀ (W:World),W.heap[w.heap.size]?=some (.cells cur1.toArray 134 (0,0))→W.heap[g]?=w.heap[g]?→∀ ty dc sc,(Builtin.copy_ #[109,109] ty #[.slice (some ⟨w.heap.size,(i+1)*19,none⟩) (n+1 - (i+1)) dc,.slice (some ⟨g,i*19,none⟩) (n - i) sc]).run Tryz.prog W=.ok (goInt (Nat.min (n - i) (n+1 - (i+1)))) (W.setRow w.heap.size cur2.toArray):=fun W hW hWg ty dc sc => by
  have:=run_copy_rows (P:=Tryz.prog) W 109 109 ty 134 19 w.heap.size ((i+1)*19) (n+1 - (i+1)) dc ⟨g,i*19,none⟩ (n - i) sc cur1 134 (xs.drop (i*19)) Tryz.underlying109 sizeProg hW
   (by rw [hML,show Nat.min (n - i) (n+1 - (i+1))=n - i by simp only [Nat.min_def]; split <;> omega])
   (fun j u hj => by rw [hga,World.cell?_of_block (w:=w) (a:=⟨g,_,none⟩) hWg]; exact hxa _ u (by rwa [List.getElem?_drop] at hj))
   (by rw [hML,hc1l,Nat.sub_mul]; omega) (fun u hu => hx1 u (List.mem_of_mem_drop hu))
  rw [← hcur2] at this
  exact this
 have hfin:cur2.toArray.size=G*19∧cur2.toArray.toList.take ((n+1)*19)=xs.take (i*19)++new++xs.drop (i*19):=by
  have e1:cur1.take ((i+1)*19)=xs.take (i*19)++new:=by
   rw [hcur1,hR1,List.take_append_of_le_length (by simp only [List.length_append,List.length_take,hxl,hl]; omega),List.take_of_length_le (by simp only [List.length_append,List.length_take,hxl,hl]; omega)]
  have e3:cur2.length=G*19:=by
   rw [hcur2,List.length_append,List.length_append,hML,List.length_take,List.length_drop,hc1l,Nat.sub_mul]; omega
  refine ⟨by simpa using e3,?_⟩
  rw [hcur2,e1]
  show List.take ((n+1)*19) (xs.take (i*19)++new++xs.drop (i*19)++_)=_
  rw [List.take_append_of_le_length,List.take_of_length_le]
  ·simp only [List.length_append,List.length_take,hxl,hl,hML,Nat.sub_mul]; omega
  ·simp only [List.length_append,List.length_take,hxl,hl,hML,Nat.sub_mul]; omega
 have hGi:¬ (G=i):=by omega
 have hGim:¬ (G=i+1):=by omega
 have hci:¬ (cap=i):=by omega
 have hw1:IntKind.i64.wrap ((i:Int)+1)=(i:Int)+1:=by rw [IntKind.wrap_i64]; omega
 have hb1:(0:Int)≤(i:Int)+1:=by omega
 have hin:i≤n:=by omega
 have htn:((i:Int)+1).toNat=i+1:=by omega
 have hb3:(i:Int)≤(n:Int):=by omega
 have hb5:(i:Int)≤(n:Int)+1:=by omega
 have hA1:=fun ty dc => hcpA ((w.alloc (.cells R 134)).drew) rfl ty dc
 have HFIN:=Lib.hid hfin
 have HRB:=Lib.hid (show ((((w.alloc (.cells R 134)).drew).setRow w.heap.size cur1.toArray).drew).heap[w.heap.size]?=some (.cells cur1.toArray 134 (0,0)) from setRow_heap _ w.heap.size _ _ _ _ (heap_alloc_new w _))
 have HGB:=Lib.hid (show ((((w.alloc (.cells R 134)).drew).setRow w.heap.size cur1.toArray).drew).heap[g]?=w.heap[g]? from (setRow_other _ _ g _ (by omega)).trans (Below.heap_alloc w _ g hgl))
 clear hkk hik hold hG hR hRl hR1 hcur1 hc1l hcur2 hfin hML hcl hxl hxa hg ha hca hxs hcs hz hz0 hii
 go_enter Tryz.func73,Tryz.ntmps73
 go_wp2_with (first
  | (at_builtin; refine Lib.wpList_append_run _ rfl _ _ _ _ rfl _ _ rfl rfl _ _ (hrz _) ?_)
  | (simp only [hA1]))
 go_region_law_o (refine step_copy_by rfl _ _ 109 109 rfl (.slice (some ⟨w.heap.size,(i+1)*19,none⟩) (n+1 - (i+1)) (G - (i+1))) (.slice (some ⟨g,i*19,none⟩) (n - i) (cap - i)) (by simp [Act.eval,Act.put]) (by simp [Act.eval,Act.put]) (hcpB _ HRB.out HGB.out 3 (G - (i+1)) (cap - i)) ?_)
 go_wp2
 go_ret
 refine ⟨_,rfl,⟨?_,.inr ⟨w.heap.size,G,cur2.toArray,rfl,hB,setRow_heap _ w.heap.size _ _ _ _ HRB.out,hGn,hGm,HFIN.out.1,HFIN.out.2⟩⟩,?_,.inr fun b hb => (by cases hb; exact Nat.le_refl _)⟩
 ·rw [← HFIN.out.2,List.length_take]; have:=HFIN.out.1; simp at this ⊢; omega
 ·refine ⟨rfl,rfl,rfl,by simp [World.setRow],fun k hk ne => ?_⟩
  have hne:k ≠ w.heap.size:=by omega
  rw [setRow_other _ _ k _ hne]
  exact (setRow_other _ _ k _ hne).trans (Below.heap_alloc w _ k hk)
theorem Insert_any (B:Nat) (v:Value) (n i:Nat) (xs new:List Value) (ad c:Nat) (cad:Array Value) (w:World) (hn:n < 8) (hi:i≤n) (hB:B≤w.heap.size) (hown:w.ownsRow B 134 19 v n xs) (hx1:∀ u ∈ xs,u.oneCell'=true)
  (had:v.ownBlock ≠ some ad) (ha:w.heap[ad]?=some (.cells cad 134 (0,0))) (hca:cad.toList=new) (hl:new.length=19) (h1:∀ u ∈ new,u.oneCell'=true) :
  Calls Tryz.prog 73 #[v,.int .i64 i,.slice (some ⟨ad,0,none⟩) 1 c] w fun e w' => ∃ v',e=.returned v'∧w'.ownsRow B 134 19 v' (n+1) (xs.take (i*19)++new++xs.drop (i*19))∧w.grownBy w' v.ownBlock∧(v'.ownBlock=v.ownBlock ∨ ∀ b,v'.ownBlock=some b→w.heap.size≤b):=by
 have hc:∀ j u,new[j]?=some u→w.cell? ⟨ad,j,none⟩=some u:=fun j u hj => by
  rw [cell_of_row w ad j cad 134 (0,0) ha]
  rw [← hca] at hj; simpa using hj
 by_cases he:i=n
 ·subst he
  have e1:xs.take (i*19)=xs:=List.take_of_length_le (by rw [hown.1]; omega)
  have e2:xs.drop (i*19)=[]:=List.drop_eq_nil_of_le (by rw [hown.1]; omega)
  rw [e1,e2,List.append_nil]
  exact Insert_end B v i xs new ad c w hn hB hown hl hc h1
 ·rcases hown.2 with ⟨rfl,rfl⟩ | ⟨g,cap,cur,rfl,hbg,hg,hcap,hmax,hcs,hxs⟩
  ·omega
  ·have had':ad ≠ g:=fun e => had (by rw [e]; rfl)
   by_cases hr:n+1≤cap
   ·exact Insert_room B g n cap i cur xs new ad c cad w hn (by omega) hr hmax hbg hg hcs hxs hl hx1 had' ha hca h1
   ·exact Insert_grow B g n cap i cur xs new ad c cad w hn (by omega) (by omega) hcap hB hg hcs hxs hl hx1 ha hca h1
end Go.Proofs.YtpdlmbbgioenoaaGreatDoor.W
namespace Go.Proofs.YtpdlmbbgioenoaaGreatDoor.W
open Go.RowKit Go.Proofs.YtpdlmbbgioenoaaGreatDoor.P
theorem infoStepH:((Tryz.prog).info? 81).map (fun i => (i.zero,i.size,i.bytes))=some (some (.agg #[.int .i64 0,.int .i64 0,.int .i64 0,.bool false,.int .i64 0,.int .i64 0]),6,48):=by kernel_rfl
theorem addr_at (a:Addr) (i r:Nat) (hr:0 < r):(⟨(a.add (i*6)).block,(a.add (i*6)).off+r,none⟩:Addr)=a.add (i*6+r):=by
 unfold Addr.add
 by_cases h:i*6=0
 ·rw [if_pos h,if_neg (by omega),h,Nat.zero_add]
 ·rw [if_neg h,if_neg (by omega)]
  simp [Nat.add_assoc]
theorem Cells.row {w:World} {a:Addr} {S:Nat→Step} {n:Nat} (h:Cells w a S n):∀ j u,(rowOf (first S n))[j]?=some u→w.cell? (a.add j)=some u:=by
 intro j u hj
 have hjl:j < n*6:=by have:=(List.getElem?_eq_some_iff.1 hj).1; rwa [rowOf_length,first_length] at this
 have hi:j / 6 < n:=by omega
 have e:j=j / 6*6+j % 6:=by omega
 rw [e,rowOf_at (first S n) (j / 6) (j % 6) (by rw [first_length]; exact hi) (by omega),nth_first S n _ hi] at hj
 obtain ⟨c0,c1,c2,c3,c4,c5⟩:=h (j / 6) hi
 rw [e]
 have hr:j % 6=0 ∨ j % 6=1 ∨ j % 6=2 ∨ j % 6=3 ∨ j % 6=4 ∨ j % 6=5:=by omega
 rcases hr with r | r | r | r | r | r <;> rw [r] at hj ⊢ <;> simp only [c6,List.getElem?_cons_zero,List.getElem?_cons_succ,Option.some.injEq] at hj <;> subst hj
 ·exact c0
 ·rw [← addr_at a _ 1 (by omega)]; exact c1
 ·rw [← addr_at a _ 2 (by omega)]; exact c2
 ·rw [← addr_at a _ 3 (by omega)]; exact c3
 ·rw [← addr_at a _ 4 (by omega)]; exact c4
 ·rw [← addr_at a _ 5 (by omega)]; exact c5
theorem row_one6 (L:List Step):∀ u ∈ rowOf L,u.oneCell'=true:=by
 intro u hu
 obtain ⟨t,_,ht⟩:=List.mem_flatMap.1 hu
 simp only [c6,List.mem_cons,List.not_mem_nil,or_false] at ht
 rcases ht with rfl | rfl | rfl | rfl | rfl | rfl <;> rfl
set_option maxHeartbeats 2000000 in
theorem Clone_any (a:Addr) (n cap:Nat) (S:Nat→Step) (hn2:n≤200) (w:World) (hs:Cells w a S n) :
  Calls Tryz.prog 74 #[.slice (some a) n cap] w fun e w' => ∃ v',e=.returned v'∧w'.ownsRow w.heap.size 81 6 v' n (rowOf (first S n))∧Below w.heap.size w w':=by
 obtain ⟨i0,hi,hq⟩:=Option.map_eq_some_iff.1 infoStepH
 have hz0:i0.zero=some _:=congrArg (·.1) hq
 have hz1:i0.size=6:=congrArg (·.2.1) hq
 have hz2:i0.bytes=48:=congrArg (·.2.2) hq
 have HR:=hs.row
 have hlen:(rowOf (first S n)).length=n*6:=by rw [rowOf_length,first_length]
 have hown:=World.ownsRow_made (size:=6) (e:=81) w #[] 0 (Nat.le_refl _) (by unfold maxLen; omega) rfl
 have hal:∀ j u,(rowOf (first S n))[j]?=some u→(w.alloc (.cells #[] 81)).cell? (a.add j)=some u:=fun j u hj => by
  have h:=HR j u hj
  rw [World.cell?_of_block (w:=w) (a:=a.add j) (Below.heap_alloc w _ _ (block_lt_of_cell h))]
  exact h
 have heq:∀ W,(binOp .eql 33 (.slice (some a) n cap) (.slice none 0 0)).run Tryz.prog W=.ok (.bool false) W:=fun W => by
  have:=Lib.run_eql_slice_nil (P:=Tryz.prog) W 33 81 (some a) n cap 0 0 Tryz.underlying33
  simpa using this
 clear HR hs
 go_enter Tryz.func74,Tryz.ntmps74
 go_wp2_with (first | (simp only [heq]) | (at_builtin; refine wpList_append_own _ rfl _ _ 33 rfl w.heap.size 81 i0 _ 6 48 Tryz.underlying33 hi hz0 hz1 hz2 rfl (by decide) _ _ _ rfl hown a n cap (rowOf (first S n)) rfl hlen hal (row_one6 _) (by unfold maxLen; omega) (by omega) (by simp) ?_; intro v' w' hown' hgrow _))
 go_ret
 refine ⟨v',rfl,by simpa using hown',?_⟩
 exact Below.grown ((Below.refl w.heap.size w).alloc (Nat.le_refl _) _) hgrow (by simp) (fun k e => by cases e; exact Nat.le_refl _)
def p19 (id rank:Int) (code:Value) (f:Nat→Int):List Value:=[.int .i64 id,.int .i64 rank,code,.int .i64 (f 0),.int .i64 (f 1),.int .i64 (f 2),.int .i64 (f 3),.int .i64 (f 4),.int .i64 (f 5),.int .i64 (f 6),.int .i64 (f 7),.int .i64 (f 8),.int .i64 (f 9),.int .i64 (f 10),.int .i64 (f 11),.int .i64 (f 12),.int .i64 (f 13),.int .i64 (f 14),.int .i64 (f 15)]
theorem Rank_any (id rk:Int) (code:Value) (f:Nat→Int) (rank:Int) (w:World) :
  Calls Tryz.prog 72 #[.agg (p19 id rk code f).toArray,.int .i64 rank] w fun e w' => e=.returned (.int .i64 (if rk≤rank then -1 else 1))∧Below w.heap.size w w':=by
 unfold p19
 by_cases h:rk≤rank
 ·rw [if_pos h]
  go_enter Tryz.func72,Tryz.ntmps72
  go_wp2_with fail
  go_ret
  exact ⟨rfl,(Below.refl _ _).alloc (Nat.le_refl _) _⟩
 ·rw [if_neg h]
  go_enter Tryz.func72,Tryz.ntmps72
  go_wp2_with fail
  go_ret
  exact ⟨rfl,(Below.refl _ _).alloc (Nat.le_refl _) _⟩
section
variable {α:Type} {f:α→List Value} {k:Nat}
theorem fm_length (hf:∀ x,(f x).length=k):∀ l:List α,(l.flatMap f).length=l.length*k
 | [] => by simp
 | x :: l => by rw [List.flatMap_cons,List.length_append,fm_length hf l,hf,List.length_cons,Nat.succ_mul]; omega
theorem fm_take (hf:∀ x,(f x).length=k):∀ (l:List α) (i:Nat),(l.flatMap f).take (i*k)=(l.take i).flatMap f
 | [],i => by simp
 | x :: l,0 => by simp
 | x :: l,i+1 => by
  rw [List.flatMap_cons,List.take_succ_cons,List.flatMap_cons,List.take_append,List.take_of_length_le (by rw [hf,Nat.succ_mul]; omega),hf,show (i+1)*k - k=i*k by rw [Nat.succ_mul]; omega,fm_take hf l i]
theorem fm_drop (hf:∀ x,(f x).length=k):∀ (l:List α) (i:Nat),(l.flatMap f).drop (i*k)=(l.drop i).flatMap f
 | [],i => by simp
 | x :: l,0 => by simp
 | x :: l,i+1 => by
  rw [List.flatMap_cons,List.drop_succ_cons,List.drop_append,List.drop_eq_nil_of_le (by rw [hf,Nat.succ_mul]; omega),hf,show (i+1)*k - k=i*k by rw [Nat.succ_mul]; omega,fm_drop hf l i,List.nil_append]
theorem fm_at (hf:∀ x,(f x).length=k):∀ (l:List α) (i j:Nat) (x:α),l[i]?=some x→j < k→(l.flatMap f)[i*k+j]?=(f x)[j]?
 | [],i,j,x,h,_ => by simp at h
 | y :: l,0,j,x,h,hj => by
  simp at h; subst h
  rw [List.flatMap_cons,Nat.zero_mul,Nat.zero_add,List.getElem?_append_left (by rw [hf]; exact hj)]
 | y :: l,i+1,j,x,h,hj => by
  rw [List.getElem?_cons_succ] at h
  rw [List.flatMap_cons,List.getElem?_append_right (by rw [hf,Nat.succ_mul]; omega),hf,show (i+1)*k+j - k=i*k+j by rw [Nat.succ_mul]; omega]
  exact fm_at hf l i j x h hj
end
def pcells (x:HP × Value):List Value:=p19 x.1.id x.1.rank x.2 x.1.cells
theorem pcells_len (x:HP × Value):(pcells x).length=19:=rfl
def rowsV (l:List (HP × Value)):List Value:=l.flatMap pcells
theorem rowsV_length (l:List (HP × Value)):(rowsV l).length=l.length*19:=fm_length pcells_len l
theorem rowsV_at {l:List (HP × Value)} {i j:Nat} {x:HP × Value} (h:l[i]?=some x) (hj:j < 19):(rowsV l)[i*19+j]?=(pcells x)[j]?:=fm_at pcells_len l i j x h hj
theorem rowsV_insert (l:List (HP × Value)) (i:Nat) (x:HP × Value):(rowsV l).take (i*19)++pcells x++(rowsV l).drop (i*19)=rowsV (l.take i++x :: l.drop i):=by
 unfold rowsV
 rw [fm_take pcells_len,fm_drop pcells_len,List.flatMap_append,List.flatMap_cons,List.append_assoc]
theorem row_range {w:World} {B g n cap:Nat} {l:List (HP × Value)} (h:w.ownsRow B 134 19 (.slice (some ⟨g,0,none⟩) n cap) n (rowsV l)) {i:Nat} {x:HP × Value} (hi:l[i]?=some x):w.rangeAt g (i*19) (pcells x):=by
 intro j u hu
 have hj:j < 19:=by have:=(List.getElem?_eq_some_iff.1 hu).1; rwa [pcells_len] at this
 have:=h.cells (g:=g) rfl (i*19+j) u (by rw [rowsV_at hi hj]; exact hu)
 have hadd:∀ k,(⟨g,0,none⟩:Addr).add k=⟨g,k,none⟩:=fun k => by unfold Addr.add; split <;> simp_all
 rwa [hadd] at this
def Sorted (l:List HP):Prop:=∀ (i j:Nat) (p q:HP),i≤j→l[i]?=some p→l[j]?=some q→p.rank≤q.rank
theorem hpos_eq {l:List HP} {rank:Int} {i:Nat} (hi:i≤l.length) (h1:∀ (j:Nat) (p:HP),j < i→l[j]?=some p→p.rank≤rank) (h2:∀ p:HP,l[i]?=some p→rank < p.rank):hpos l rank=i:=by
 unfold hpos
 by_cases he:i=l.length
 ·subst he
  rw [List.findIdx_eq_length]
  intro p hp
  obtain ⟨j,hj,rfl⟩:=List.getElem_of_mem hp
  have:=h1 j _ hj (List.getElem?_eq_getElem hj)
  simpa using this
 ·have hl:i < l.length:=by omega
  rw [List.findIdx_eq hl]
  refine ⟨by simpa using h2 _ (List.getElem?_eq_getElem hl),fun j hj => ?_⟩
  have:=h1 j _ hj (List.getElem?_eq_getElem (by omega))
  simpa using this
theorem Rank_at (x:HP × Value) (rank:Int) (w:World) :
  Calls Tryz.prog 72 #[.agg (pcells x).toArray,.int .i64 rank] w fun e w' => e=.returned (.int .i64 (if x.1.rank≤rank then -1 else 1))∧Below w.heap.size w w':=Rank_any _ _ _ _ _ _
theorem sizeCells (x:HP × Value):((Tryz.prog).info? 134).map (·.size)=some (pcells x).length:=sizeProg
theorem wpList_load_row {P:Program} {ops:Array Oper} {rest:List Oper} {op:Oper} {a:Act} {w:World} {Q:Exit→Act→World→Prop} (hw:Region.wanted op (yielded ops a.tmps)=true) (ty:TypeId) (x:Operand) (ho:op.op=.load ty x)
  (b o:Nat) (hx:a.eval x=.pointer (some ⟨b,o,none⟩)) (cs:List Value) (d:TypeDesc) (hc:w.rangeAt b o cs) (hu:P.underlying ty=some d) (hd:d.isRow=true) (hi:(P.info? ty).map (·.size)=some cs.length)
  (h:wpList P ops Q rest (a.put op.dst (.agg cs.toArray)) w):wpList P ops Q (op :: rest) a w :=
 wpList_step fun _ hK => by
  rw [if_pos hw]
  exact wp_load_mid ty x ho b o hx cs d hc hu hd hi (hK _ _ h)
set_option maxHeartbeats 8000000 in
theorem Search_any (l:List (HP × Value)) (v:Value) (rank:Int) (hl:l.length≤8) (B:Nat) (w:World) (hrow:w.ownsRow B 134 19 v l.length (rowsV l)) (hsort:Sorted (l.map (·.1))) :
  Calls Tryz.prog 71 #[v,.int .i64 rank,Value.func (.func 72) #[] #[]] w fun e w' => e=.returned (.tuple #[.int .i64 (hpos (l.map (·.1)) rank),.bool false])∧Below w.heap.size w w':=by
 have key:∃ og cap,v=.slice og l.length cap:=by
  rcases hrow.2 with ⟨rfl,h0⟩ | ⟨g,cap,cur,rfl,_⟩
  ·exact ⟨_,_,by rw [h0]⟩
  ·exact ⟨_,_,rfl⟩
 obtain ⟨og,cap,rfl⟩:=key
 generalize hn:l.length=n at hl hrow ⊢
 have HROW:=Lib.hid hrow
 have HSORT:=Lib.hid hsort
 clear hrow hsort
 go_enter Tryz.func71,Tryz.ntmps71
 go_wp2_with fail
 go_loopw [9,10] (fun x y wr => ∃ a b:Nat,a≤b∧b≤n∧x=.int .i64 a∧y=.int .i64 b∧(∀ (j:Nat) (p:HP),j < a→(l.map (·.1))[j]?=some p→p.rank≤rank)∧(∀ (j:Nat) (p:HP),b≤j→(l.map (·.1))[j]?=some p→rank < p.rank)∧Below w.heap.size w wr) (fun x y _ => (intOf y).toNat - (intOf x).toNat)
 case atStart => exact ⟨0,n,by omega,by omega,rfl,rfl,fun j p h => by omega,fun j p h hj => by have:=(List.getElem?_eq_some_iff.1 hj).1; simp at this; omega,Below.refl _ _⟩
 case round =>
  obtain ⟨a,b,hab,hbn,rfl,rfl,ha,hb,HB⟩:=hrel
  have HA:=Lib.hid ha
  have HBB:=Lib.hid hb
  have HBr:=Lib.hid HB
  clear ha hb HB
  by_cases h:a < b
  ·have hk1:(a:Int) < b:=by omega
   obtain ⟨m,hm⟩:∃ m:Nat,((a:Int)+(b:Int)) / 2=m:=⟨(a+b) / 2,by omega⟩
   have hm1:a≤m:=by omega
   have hm2:m < b:=by omega
   have hm3:(m:Int) < n:=by omega
   obtain ⟨x,hx⟩:∃ x,l[m]?=some x:=⟨_,List.getElem?_eq_getElem (by omega)⟩
   have hx1:(l.map (·.1))[m]?=some x.1:=by simp [hx]
   obtain ⟨g,rfl⟩:∃ g,og=some ⟨g,0,none⟩:=by
    rcases HROW.out.2 with ⟨h0,h1⟩ | ⟨g,cap',cur,h0,_⟩
    ·omega
    ·injection h0 with h0; exact ⟨g,h0⟩
   have hr:=row_range (HROW.out) hx
   have hgl:g < w.heap.size:=(HROW.out.lt g rfl).2
   have hrr:wr.rangeAt g (m*19) (pcells x):=fun j u hj => (HBr.out.cell (p:=⟨g,m*19+j,none⟩) hgl).trans (hr j u hj)
   have HR:=Lib.hid hrr
   clear hr hrr
   go_wp2_with (first | (with_reducible refine wpList_load_row (by simp [go_sem]; done) 134 (.tmp 27) rfl g (m*19) (by simp [go_sem]; done) (pcells x) _ HR.out Tryz.underlying134 rfl (sizeCells x) ?_))
   refine (Rank_at x rank _).mono ?_
   rintro e w1 ⟨rfl,hb⟩
   have HB1:=Lib.hid (HBr.out.trans (hb.mono HBr.out.size))
   clear hb
   by_cases hk:x.1.rank≤rank
   ·rw [if_pos hk]
    go_wp2_with fail
    go_roundw
    case rel =>
     refine ⟨m+1,b,by omega,hbn,by go_num,rfl,fun j p hj hp => ?_,HBB.out,HB1.out⟩
     exact Int.le_trans (HSORT.out j m p x.1 (by omega) hp hx1) hk
    case measure => simp [intOf]; omega
   ·rw [if_neg hk]
    go_wp2_with fail
    go_roundw
    case rel =>
     refine ⟨a,m,by omega,by omega,rfl,rfl,HA.out,fun j p hj hp => ?_,HB1.out⟩
     have:=HSORT.out m j x.1 p (by omega) hx1 hp
     omega
    case measure => simp [intOf]; omega
  ·obtain rfl:a=b:=by omega
   have hpos:=hpos_eq (l:=l.map (·.1)) (rank:=rank) (i:=a) (by simp; omega) HA.out (fun p hp => HBB.out a p (Nat.le_refl _) hp)
   have HPOS:=Lib.hid hpos
   clear hpos
   by_cases he:a < n
   ·have he1:(a:Int) < n:=by omega
    obtain ⟨x,hx⟩:∃ x,l[a]?=some x:=⟨_,List.getElem?_eq_getElem (by omega)⟩
    obtain ⟨g,rfl⟩:∃ g,og=some ⟨g,0,none⟩:=by
     rcases HROW.out.2 with ⟨h0,h1⟩ | ⟨g,cap',cur,h0,_⟩
     ·omega
     ·injection h0 with h0; exact ⟨g,h0⟩
    have hr:=row_range (HROW.out) hx
    have hgl:g < w.heap.size:=(HROW.out.lt g rfl).2
    have hrr:wr.rangeAt g (a*19) (pcells x):=fun j u hj => (HBr.out.cell (p:=⟨g,a*19+j,none⟩) hgl).trans (hr j u hj)
    have HR:=Lib.hid hrr
    clear hr hrr
    go_wp2_with (first | (with_reducible refine wpList_load_row (by simp [go_sem]; done) 134 (.tmp 43) rfl g (a*19) (by simp [go_sem]; done) (pcells x) _ HR.out Tryz.underlying134 rfl (sizeCells x) ?_))
    refine (Rank_at x rank _).mono ?_
    rintro e w1 ⟨rfl,hb⟩
    have HB1:=Lib.hid (HBr.out.trans (hb.mono HBr.out.size))
    clear hb
    by_cases hk:x.1.rank≤rank
    ·rw [if_pos hk]
     go_wp2_with fail
     refine bodyPost_ret (v:=.tuple #[.int .i64 a,.bool false]) (by simp [results,Tryz.results71,go_sem]) rfl ⟨by rw [HPOS.out],HB1.out⟩
    ·rw [if_neg hk]
     go_wp2_with fail
     refine bodyPost_ret (v:=.tuple #[.int .i64 a,.bool false]) (by simp [results,Tryz.results71,go_sem]) rfl ⟨by rw [HPOS.out],HB1.out⟩
   ·have he1:¬ (a:Int) < n:=by omega
    go_wp2_with fail
    refine bodyPost_ret (v:=.tuple #[.int .i64 a,.bool false]) (by simp [results,Tryz.results71,go_sem]) rfl ⟨by rw [HPOS.out],HBr.out⟩
end Go.Proofs.YtpdlmbbgioenoaaGreatDoor.W
namespace Go.Proofs.YtpdlmbbgioenoaaGreatDoor.W
open Go.RowKit Go.Proofs.YtpdlmbbgioenoaaGreatDoor.P
structure Frm (M:Nat→Prop) (w w':World):Prop where
 os:w'.os=w.os
 tape:w'.tape=w.tape
 output:w'.output=w.output
 size:w.heap.size≤w'.heap.size
 block:∀ k,k < w.heap.size→¬ M k→w'.heap[k]?=w.heap[k]?
section
variable {M M':Nat→Prop} {w w' w'':World}
theorem Frm.refl (M:Nat→Prop) (w:World):Frm M w w:=⟨rfl,rfl,rfl,Nat.le_refl _,fun _ _ _ => rfl⟩
theorem Frm.trans (h:Frm M w w') (k:Frm M w' w''):Frm M w w'' :=
 ⟨k.os.trans h.os,k.tape.trans h.tape,k.output.trans h.output,Nat.le_trans h.size k.size,fun i hi ne => (k.block i (Nat.lt_of_lt_of_le hi h.size) ne).trans (h.block i hi ne)⟩
theorem Frm.mono (h:Frm M w w') (hM:∀ k,k < w.heap.size→M k→M' k):Frm M' w w':=⟨h.os,h.tape,h.output,h.size,fun k hk ne => h.block k hk fun m => ne (hM k hk m)⟩
theorem Frm.of (h:Below w.heap.size w w'):Frm M w w':=⟨h.os,h.tape,h.output,h.size,fun k hk _ => h.block k hk⟩
theorem Frm.below (h:Frm M w w') {B:Nat} (hB:B≤w.heap.size) (hM:∀ k,M k→B≤k):Below B w w':=⟨h.os,h.tape,h.output,h.size,fun k hk => h.block k (by omega) fun m => by have:=hM k m; omega⟩
theorem Frm.grown {v:Option Nat} (h:w.grownBy w' v) (hM:∀ k,v=some k→M k):Frm M w w':=⟨h.os,h.tape,h.output,h.size,fun k hk ne => h.block k hk fun e => ne (hM k e.symm)⟩
theorem Frm.but {b:Nat} (h:But b w w') (hM:M b):Frm M w w':=⟨h.os,h.tape,h.output,h.size,fun k hk ne => h.block k hk fun e => ne (e ▸ hM)⟩
theorem Frm.img {b n:Nat} {I:Nat→Value} (h:Frm M w w') (hI:P.Img w b n I) (hn:0 < n) (hb:¬ M b):P.Img w' b n I:=hI.of_block (h.block b (hI.lt hn) hb)
theorem Frm.row {B:Nat} {e:TypeId} {size:Nat} {v:Value} {n:Nat} {xs:List Value} (h:Frm M w w') (hr:w.ownsRow B e size v n xs) (hM:∀ k,v.ownBlock=some k→¬ M k):w'.ownsRow B e size v n xs:=by
 refine ⟨hr.1,?_⟩
 rcases hr.2 with hn | ⟨g,cap,cur,rfl,hb,hg,rest⟩
 ·exact .inl hn
 ·exact .inr ⟨g,cap,cur,rfl,hb,(h.block g (Array.getElem?_eq_some_iff.1 hg).1 (hM g rfl)).trans hg,rest⟩
theorem Frm.cell {p:Addr} {v:Value} (h:Frm M w w') (e:w.cell? p=some v) (ne:¬ M p.block):w'.cell? p=some v :=
 (World.cell?_of_block (w:=w) (h.block p.block (World.block_lt_of_cell? w p e) ne)).trans e
end
def Typed (w:World) (b:Nat) (t:TypeId):Prop:=∃ c,w.heap[b]?=some (.cells c t (0,0))
theorem Typed.ne {w:World} {a b:Nat} {s t:TypeId} (h:Typed w a s) (k:Typed w b t) (ne:s ≠ t):a ≠ b:=by
 rintro rfl
 obtain ⟨c,hc⟩:=h; obtain ⟨d,hd⟩:=k
 rw [hc] at hd
 injection hd with hd; injection hd with _ hd; exact ne hd
theorem typed_row {w:World} {B:Nat} {e:TypeId} {size:Nat} {v:Value} {n:Nat} {xs:List Value} (h:w.ownsRow B e size v n xs):∀ k,v.ownBlock=some k→Typed w k e:=by
 intro k hk
 rcases h.2 with ⟨rfl,_⟩ | ⟨g,cap,cur,rfl,_,hg,_⟩
 ·cases hk
 ·injection hk with hk; subst hk; exact ⟨_,hg⟩
theorem Typed.lt {w:World} {b:Nat} {t:TypeId} (h:Typed w b t):b < w.heap.size:=by obtain ⟨c,hc⟩:=h; exact (Array.getElem?_eq_some_iff.1 hc).1
theorem row_weaken {w:World} {B B':Nat} {e:TypeId} {size:Nat} {v:Value} {n:Nat} {xs:List Value} (h:w.ownsRow B e size v n xs) (hB:B'≤B):w.ownsRow B' e size v n xs:=by
 refine ⟨h.1,?_⟩
 rcases h.2 with hn | ⟨g,cap,cur,rfl,hb,rest⟩
 ·exact .inl hn
 ·exact .inr ⟨g,cap,cur,rfl,by omega,rest⟩
def CodeAt (w:World) (x:HP × Value):Prop:=w.ownsRow 0 81 6 x.2 x.1.code.length (rowOf x.1.code)
structure ChainAt (w:World) (c:HC) (v:Value) (pl:List (HP × Value)):Prop where
 l:pl.map (·.1)=c.l
 row:w.ownsRow 0 134 19 v pl.length (rowsV pl)
 code:∀ x ∈ pl,CodeAt w x
 sorted:Sorted c.l
 short:pl.length≤8
theorem ChainAt.zero (w:World):ChainAt w ⟨[],0⟩ (.slice none 0 0) []:=⟨rfl,World.ownsRow_nil _ _ _ _,fun x h => (by cases h),fun i j p q _ h => by simp at h,by simp⟩
theorem ChainAt.frm {M:Nat→Prop} {w w':World} {c:HC} {v:Value} {pl:List (HP × Value)} (h:ChainAt w c v pl) (hf:Frm M w w') (h1:∀ k,v.ownBlock=some k→¬ M k) (h2:∀ k,Typed w k 81→¬ M k):ChainAt w' c v pl :=
 ⟨h.l,hf.row h.row h1,fun x hx => hf.row (h.code x hx) fun k hk => h2 k (typed_row (h.code x hx) k hk),h.sorted,h.short⟩
def t8 (f:Nat→Int):List Value:=[.int .i64 (f 0),.int .i64 (f 1),.int .i64 (f 2),.int .i64 (f 3),.int .i64 (f 4),.int .i64 (f 5),.int .i64 (f 6),.int .i64 (f 7)]
theorem t8_len (f:Nat→Int):(t8 f).length=8:=rfl
def QAt (w:World) (q:List (Nat→Int)) (v:Value):Prop:=∃ og cap,v=.slice og q.length cap∧q.length≤cap∧cap≤maxLen∧((og=none∧cap=0) ∨
 ∃ g o cur,og=some ⟨g,o*8,none⟩∧w.heap[g]?=some (.cells cur 183 (0,0))∧(o+cap)*8≤cur.size∧(cur.toList.drop (o*8)).take (q.length*8)=q.flatMap t8)
theorem QAt.zero (w:World):QAt w [] (.slice none 0 0):=⟨none,0,rfl,Nat.le_refl _,by unfold maxLen; omega,.inl ⟨rfl,rfl⟩⟩
theorem QAt.frm {M:Nat→Prop} {w w':World} {q:List (Nat→Int)} {v:Value} (h:QAt w q v) (hf:Frm M w w') (h1:∀ k,v.ownBlock=some k→¬ M k):QAt w' q v:=by
 obtain ⟨og,cap,rfl,h2,h3,h4⟩:=h
 refine ⟨og,cap,rfl,h2,h3,?_⟩
 rcases h4 with h4 | ⟨g,o,cur,rfl,hg,h5⟩
 ·exact .inl h4
 ·exact .inr ⟨g,o,cur,rfl,(hf.block g (Array.getElem?_eq_some_iff.1 hg).1 (h1 g rfl)).trans hg,h5⟩
theorem QAt.typed {w:World} {q:List (Nat→Int)} {v:Value} (h:QAt w q v):∀ k,v.ownBlock=some k→Typed w k 183:=by
 obtain ⟨og,cap,rfl,h2,h3,h4⟩:=h
 intro k hk
 rcases h4 with ⟨rfl,_⟩ | ⟨g,o,cur,rfl,hg,h5⟩
 ·cases hk
 ·injection hk with hk; subst hk; exact ⟨_,hg⟩
def dimg (d:HD) (vs qs:Nat→Value):Nat→Value:=fun j =>
 if j < 6 then (if j % 2=0 then vs (j / 2) else .int .i64 (d.c (j / 2)).next) else if j < 9 then qs (j - 6) else if j < 12 then .int .i64 (d.may (j - 9)) else if j < 15 then .int .i64 (d.left (j - 12)) else .int .i64 d.time
def Owns (D:Nat) (vs qs:Nat→Value):Nat→Prop:=fun b => b=D ∨ ∃ k,k < 3∧((vs k).ownBlock=some b ∨ (qs k).ownBlock=some b)
structure DeskAt (w:World) (D:Nat) (d:HD) (vs qs:Nat→Value) (pls:Nat→List (HP × Value)):Prop where
 img:P.Img w D 16 (dimg d vs qs)
 typed:Typed w D 116
 chain:∀ k,k < 3→ChainAt w (d.c k) (vs k) (pls k)
 queue:∀ k,k < 3→QAt w (d.q k) (qs k)
 apartV:∀ j k b,j < 3→k < 3→j ≠ k→(vs j).ownBlock=some b→(vs k).ownBlock ≠ some b
 apartQ:∀ j k b,j < 3→k < 3→j ≠ k→(qs j).ownBlock=some b→(qs k).ownBlock ≠ some b
variable {w w':World} {D:Nat} {d:HD} {vs qs:Nat→Value} {pls:Nat→List (HP × Value)}
theorem DeskAt.frm {M:Nat→Prop} (h:DeskAt w D d vs qs pls) (hf:Frm M w w') (hM:∀ b,Owns D vs qs b→¬ M b) (h2:∀ k,Typed w k 81→¬ M k):DeskAt w' D d vs qs pls:=by
 refine ⟨hf.img h.img (by omega) (hM D (.inl rfl)),?_,fun k hk => ?_,fun k hk => ?_,h.apartV,h.apartQ⟩
 ·obtain ⟨c,hc⟩:=h.typed
  exact ⟨c,(hf.block D h.typed.lt (hM D (.inl rfl))).trans hc⟩
 ·exact (h.chain k hk).frm hf (fun b hb => hM b (.inr ⟨k,hk,.inl hb⟩)) h2
 ·exact (h.queue k hk).frm hf (fun b hb => hM b (.inr ⟨k,hk,.inr hb⟩))
theorem Owns.lt (h:DeskAt w D d vs qs pls) {b:Nat} (hb:Owns D vs qs b):b < w.heap.size:=by
 rcases hb with rfl | ⟨k,hk,hb | hb⟩
 ·exact h.typed.lt
 ·exact (typed_row (h.chain k hk).row b hb).lt
 ·exact ((h.queue k hk).typed b hb).lt
theorem Owns.noStep (h:DeskAt w D d vs qs pls) {b:Nat} (hb:Owns D vs qs b):¬ Typed w b 81:=by
 intro ht
 rcases hb with rfl | ⟨k,hk,hb | hb⟩
 ·exact h.typed.ne ht (by decide) rfl
 ·exact (typed_row (h.chain k hk).row b hb).ne ht (by decide) rfl
 ·exact ((h.queue k hk).typed b hb).ne ht (by decide) rfl
theorem DeskAt.later (h:DeskAt w D d vs qs pls) (hb:Below w.heap.size w w'):DeskAt w' D d vs qs pls:=h.frm (M:=fun _ => False) (Frm.of hb) (fun _ _ => id) (fun _ _ => id)
end Go.Proofs.YtpdlmbbgioenoaaGreatDoor.W
namespace Go.Proofs.YtpdlmbbgioenoaaGreatDoor.W
open Go.RowKit Go.Proofs.YtpdlmbbgioenoaaGreatDoor.P
theorem dimg_chain {d:HD} {vs qs:Nat→Value} {k:Nat} (hk:k < 3):dimg d vs qs (k*2)=vs k∧dimg d vs qs (k*2+1)=.int .i64 (d.c k).next:=by
 unfold dimg
 refine ⟨?_,?_⟩
 ·rw [if_pos (by omega),if_pos (by omega),show k*2 / 2=k by omega]
 ·rw [if_pos (by omega),if_neg (by omega),show (k*2+1) / 2=k by omega]
theorem dimg_q {d:HD} {vs qs:Nat→Value} {k:Nat} (hk:k < 3):dimg d vs qs (6+k)=qs k:=by
 unfold dimg; rw [if_neg (by omega),if_pos (by omega),show 6+k - 6=k by omega]
theorem dimg_may {d:HD} {vs qs:Nat→Value} {k:Nat} (hk:k < 3):dimg d vs qs (9+k)=.int .i64 (d.may k):=by
 unfold dimg; rw [if_neg (by omega),if_neg (by omega),if_pos (by omega),show 9+k - 9=k by omega]
theorem dimg_left {d:HD} {vs qs:Nat→Value} {k:Nat} (hk:k < 3):dimg d vs qs (12+k)=.int .i64 (d.left k):=by
 unfold dimg; rw [if_neg (by omega),if_neg (by omega),if_neg (by omega),if_pos (by omega),show 12+k - 12=k by omega]
variable {w:World} {D:Nat} {d:HD} {vs qs:Nat→Value} {pls:Nat→List (HP × Value)}
theorem QAt.form {w:World} {q:List (Nat→Int)} {v:Value} (h:QAt w q v):∃ og cap,v=.slice og q.length cap:=by obtain ⟨og,cap,rfl,_⟩:=h; exact ⟨og,cap,rfl⟩
theorem Chain_in (h:DeskAt w D d vs qs pls) (k:Nat) (hk:k < 3) :
  Calls Tryz.prog 14 #[.pointer (some ⟨D,0,none⟩),.int .i64 k] w fun e w' => e=.returned (.tuple #[.pointer (some ⟨D,k*2,none⟩),.nilIface])∧w'=w:=by
 have k0:¬ (k:Int) < 0:=by omega
 have k3:¬ 3≤(k:Int):=by omega
 have k4:(k:Int) < 3:=by omega
 go_enter Tryz.func14,Tryz.ntmps14
 go_wp2_with fail
 exact bodyPost_ret (v:=.tuple #[.pointer (some ⟨D,k*2,none⟩),.nilIface]) (by simp [results,Tryz.results14,go_sem]) rfl ⟨rfl,rfl⟩
theorem Waits_in (h:DeskAt w D d vs qs pls) (k:Nat) (hk:k < 3) :
  Calls Tryz.prog 15 #[.pointer (some ⟨D,0,none⟩),.int .i64 k] w fun e w' => e=.returned (.int .i64 (d.q k).length)∧w'=w:=by
 have k0:¬ (k:Int) < 0:=by omega
 have k3:¬ 3≤(k:Int):=by omega
 have k4:(k:Int) < 3:=by omega
 obtain ⟨og,cap,hq⟩:=(h.queue k hk).form
 have c0:=(h.img.cell (6+k) (by omega)).trans (congrArg some (dimg_q hk))
 rw [hq] at c0
 go_enter Tryz.func15,Tryz.ntmps15
 go_wp2_with fail
 go_ret
 exact ⟨rfl,rfl⟩
theorem Left_in (h:DeskAt w D d vs qs pls) (k:Nat) (hk:k < 3) :
  Calls Tryz.prog 16 #[.pointer (some ⟨D,0,none⟩),.int .i64 k] w fun e w' => e=.returned (.int .i64 (d.left k))∧w'=w:=by
 have k0:¬ (k:Int) < 0:=by omega
 have k3:¬ 3≤(k:Int):=by omega
 have k4:(k:Int) < 3:=by omega
 have c0:=(h.img.cell (12+k) (by omega)).trans (congrArg some (dimg_left hk))
 go_enter Tryz.func16,Tryz.ntmps16
 go_wp2_with fail
 go_ret
 exact ⟨rfl,rfl⟩
theorem hidx3 (a b c:Int) (w:World):(Instr.index 22 (.agg #[.int .i64 a,.int .i64 b,.int .i64 c]) (.int .i64 0)).run Tryz.prog w=.ok (.int .i64 a) w∧(Instr.index 22 (.agg #[.int .i64 a,.int .i64 b,.int .i64 c]) (.int .i64 1)).run Tryz.prog w=.ok (.int .i64 b) w ∧
  (Instr.index 22 (.agg #[.int .i64 a,.int .i64 b,.int .i64 c]) (.int .i64 2)).run Tryz.prog w=.ok (.int .i64 c) w:=⟨by kernel_rfl,by kernel_rfl,by kernel_rfl⟩
set_option maxHeartbeats 4000000 in
theorem New_ok (may:Nat→Int) (hm:∀ k,k < 3→1≤may k∧may k≤1000) (w:World) :
  Calls Tryz.prog 10 #[.agg #[.int .i64 (may 0),.int .i64 (may 1),.int .i64 (may 2)]] w fun e w' => ∃ D,e=.returned (.tuple #[.pointer (some ⟨D,0,none⟩),.nilIface])∧w.heap.size≤D ∧
   DeskAt w' D (HD.zero may) (fun _ => .slice none 0 0) (fun _ => .slice none 0 0) (fun _ => [])∧Below w.heap.size w w':=by
 obtain ⟨a0,b0⟩:=hm 0 (by omega); obtain ⟨a1,b1⟩:=hm 1 (by omega); obtain ⟨a2,b2⟩:=hm 2 (by omega)
 have e0:¬ may 0 < 1:=by omega
 have e1:¬ may 1 < 1:=by omega
 have e2:¬ may 2 < 1:=by omega
 have f0:¬ 1000 < may 0:=by omega
 have f1:¬ 1000 < may 1:=by omega
 have f2:¬ 1000 < may 2:=by omega
 have ix0:=fun w => (hidx3 (may 0) (may 1) (may 2) w).1
 have ix1:=fun w => (hidx3 (may 0) (may 1) (may 2) w).2.1
 have ix2:=fun w => (hidx3 (may 0) (may 1) (may 2) w).2.2
 go_enter Tryz.func10,Tryz.ntmps10
 go_wp2_with fail
 refine wp_loop_rounds 4 ?_
 rw [rounds_succ]
 go_wp2_with (rw [rounds_succ])
 refine bodyPost_ret (v:=.tuple #[.pointer (some ⟨w.heap.size+1,0,none⟩),.nilIface]) (by simp [results,Tryz.results10,go_sem]) rfl ⟨_,rfl,by omega,?_,?_⟩
 ·have hb:∀ (o:Obj) (c:Array Value),((w.alloc o).alloc (.cells c 116 (0,0))).heap[w.heap.size+1]?=some (.cells c 116 (0,0)):=fun o c => by simpa using heap_alloc_new (w.alloc o) (.cells c 116 (0,0))
  refine ⟨?_,⟨_,hb _ _⟩,fun k hk => ChainAt.zero _,fun k hk => QAt.zero _,fun j k b hj hk ne e => (by cases e),fun j k b hj hk ne e => (by cases e)⟩
  refine Img.of_cells (hb _ _) rfl fun j hj => ?_
  have hj:j < 16:=hj
  have hj':j=0 ∨ j=1 ∨ j=2 ∨ j=3 ∨ j=4 ∨ j=5 ∨ j=6 ∨ j=7 ∨ j=8 ∨ j=9 ∨ j=10 ∨ j=11 ∨ j=12 ∨ j=13 ∨ j=14 ∨ j=15:=by omega
  rcases hj' with rfl | rfl | rfl | rfl | rfl | rfl | rfl | rfl | rfl | rfl | rfl | rfl | rfl | rfl | rfl | rfl <;> rfl
 ·exact ((Below.refl _ _).alloc (Nat.le_refl _) _).alloc (by simp) _
end Go.Proofs.YtpdlmbbgioenoaaGreatDoor.W
namespace Go.Proofs.YtpdlmbbgioenoaaGreatDoor.W
open Go.RowKit Go.Proofs.YtpdlmbbgioenoaaGreatDoor.P
theorem infoEvent:((Tryz.prog).info? 183).map (fun i => (i.zero,i.size,i.bytes))=some (some (.agg #[.int .i64 0,.int .i64 0,.int .i64 0,.int .i64 0,.int .i64 0,.int .i64 0,.int .i64 0,.int .i64 0]),8,64):=by kernel_rfl
theorem run_append_at {P:Program} (w:World) (t ty e:TypeId) (i:TypeInfo) (ht:P.underlying t=some (.slice e)) (hi:P.info? e=some i)
  (g off sLen sCap:Nat) (cur:Array Value) (hg:w.heap[g]?=some (.cells cur e (0,0)))
  (a:Addr) (m c:Nat) (news:List Value) (hl:news.length=m*i.size) (hnews:∀ j u,news[j]?=some u→w.cell? (a.add j)=some u) (h1:∀ u ∈ news,u.oneCell'=true)
  (hroom:sLen+m≤sCap) (hfit:off+sLen*i.size+news.length≤cur.size) :
  (Builtin.append_ #[t,t] ty #[.slice (some ⟨g,off,none⟩) sLen sCap,.slice (some a) m c]).run P w =
   .ok (.slice (some ⟨g,off,none⟩) (sLen+m) sCap) (w.setRow g (cur.toList.take (off+sLen*i.size)++news++cur.toList.drop (off+sLen*i.size+news.length)).toArray):=by
 have hf:=run_firstCells_some (P:=P) w i.size m a m c news hl hnews
 have hst:=run_storeCells_at P g (off+sLen*i.size) e news 0 cur w hg (by simpa using hfit) h1
 simp only [Nat.add_zero] at hst
 simp [Builtin.append_,run_underlying ht,sizeOf,typeInfo,hi,Builtin.lenOf,hroom,hf,Addr.add_lit,hst]
theorem t8_one (f:Nat→Int):∀ u ∈ t8 f,u.oneCell'=true:=by
 intro u hu
 simp only [t8,List.mem_cons,List.not_mem_nil,or_false] at hu
 rcases hu with rfl | rfl | rfl | rfl | rfl | rfl | rfl | rfl <;> rfl
theorem q_append (W:World) (q:List (Nat→Int)) (v:Value) (told:Nat→Int) (ad c:Nat) (h:QAt W q v) (hn:q.length < 20) (had:∀ j u,(t8 told)[j]?=some u→W.cell? ⟨ad,j,none⟩=some u) :
  ∃ v' W',(∀ ty,(Builtin.append_ #[113,113] ty #[v,.slice (some ⟨ad,0,none⟩) 1 c]).run Tryz.prog W=.ok v' W')∧QAt W' (q++[told]) v'∧W.grownBy W' v.ownBlock∧(v'.ownBlock=v.ownBlock ∨ ∀ b,v'.ownBlock=some b→W.heap.size≤b):=by
 obtain ⟨i0,hi,hq⟩:=Option.map_eq_some_iff.1 infoEvent
 have hz0:i0.zero=some _:=congrArg (·.1) hq
 have hz1:i0.size=8:=congrArg (·.2.1) hq
 have hz2:i0.bytes=64:=congrArg (·.2.2) hq
 have hadd:∀ b k j,(⟨b,k,none⟩:Addr).add j=⟨b,k+j,none⟩:=fun b k j => by unfold Addr.add; split <;> simp_all
 have had':∀ j u,(t8 told)[j]?=some u→W.cell? ((⟨ad,0,none⟩:Addr).add j)=some u:=fun j u hj => by rw [hadd,Nat.zero_add]; exact had j u hj
 obtain ⟨og,cap,rfl,hcap,hmax,hk⟩:=h
 by_cases hr:q.length+1≤cap
 ·rcases hk with ⟨-,h0⟩ | ⟨g,o,cur,rfl,hg,hsz,hxs⟩
  ·omega
  refine ⟨_,_,fun ty => run_append_at W _ ty 183 i0 Tryz.underlying113 hi g (o*8) q.length cap cur hg ⟨ad,0,none⟩ 1 c (t8 told) (by rw [hz1]; rfl) had' (t8_one told) hr (by rw [hz1,t8_len]; omega),?_,?_,.inl rfl⟩
  ·refine ⟨_,cap,by rw [List.length_append]; rfl,by rw [List.length_append]; exact hr,hmax,.inr ⟨g,o,_,rfl,setRow_heap W g _ _ _ _ hg,?_,?_⟩⟩
   ·rw [hz1,t8_len]
    simp only [List.size_toArray,List.length_append,List.length_take,List.length_drop,Array.length_toList,t8_len]
    omega
   ·rw [hz1,t8_len]
    show List.take ((q++[told]).length*8) (List.drop (o*8) (List.take (o*8+q.length*8) cur.toList++t8 told++List.drop (o*8+q.length*8+8) cur.toList))=_
    have hcl:cur.toList.length=cur.size:=Array.length_toList
    rw [List.append_assoc,List.drop_append_of_le_length (by rw [List.length_take,hcl]; omega),List.drop_take,show o*8+q.length*8 - o*8=q.length*8 by omega,hxs,← List.append_assoc,List.take_append_of_le_length,List.take_of_length_le,List.flatMap_append]
    ·simp
    ·rw [List.length_append,List.length_append,t8_len,fm_length t8_len]; simp; omega
    ·rw [List.length_append,List.length_append,t8_len,fm_length t8_len]; simp; omega
  ·refine ⟨rfl,rfl,rfl,by simp [World.setRow],fun k hk ne => setRow_other _ g k _ (fun e => ne (congrArg some e))⟩
 ·have hold:(Builtin.firstCells i0.size q.length (.slice og q.length cap)).run Tryz.prog W.drew=.ok (q.flatMap t8).toArray W.drew:=by
   rw [hz1]
   rcases hk with ⟨rfl,h0⟩ | ⟨g,o,cur,rfl,hg,hsz,hxs⟩
   ·have hq0:q=[]:=List.eq_nil_of_length_eq_zero (by omega)
    subst hq0
    exact run_firstCells_none W.drew 8 0 0 cap
   ·refine run_firstCells_some W.drew 8 q.length ⟨g,o*8,none⟩ q.length cap (q.flatMap t8) (fm_length t8_len q) fun j u hj => ?_
    rw [hadd]
    show W.cell? _=_
    rw [cell_of_row W g (o*8+j) cur 183 (0,0) hg]
    rw [← hxs,List.getElem?_take] at hj
    split at hj
    ·rw [List.getElem?_drop] at hj; simpa using hj
    ·cases hj
  have hsrc:Src Tryz.prog i0.size 113 (.slice (some ⟨ad,0,none⟩) 1 c) 1 (t8 told) W:=by
   rw [hz1]
   exact Src.ofSlice W Tryz.underlying113 ⟨ad,0,none⟩ 1 c (t8 told) rfl had' (t8_one told)
  obtain ⟨z,hz,hzs⟩:∃ z,i0.zero=some z∧z.cells.size=8:=⟨_,hz0,rfl⟩
  have hcl:cap≤q.length:=by omega
  refine ⟨_,_,fun ty => run_append_grow_src W _ _ ty 183 i0 z Tryz.underlying113 hi hz og q.length cap (q.flatMap t8) hold _ 1 (t8 told) hsrc (by omega) (by omega) (by rw [hz2]; exact growslice_fits (by omega) (by omega)),?_,?_,.inr fun b hb => (by cases hb; exact Nat.le_refl _)⟩
  ·refine ⟨_,grownCap W (q.length+1) cap 183,by rw [List.length_append]; rfl,by rw [List.length_append]; exact grownCap_ge W _ _ _,grownCap_le_maxLen W _ _ _ (by unfold maxLen; omega),.inr ⟨W.heap.size,0,_,rfl,heap_alloc_new W.drew _,?_,?_⟩⟩
   ·have hge:=grownCap_ge W (q.length+1) cap 183
    simp only [Array.size_append,zeroCells_size,hzs,List.size_toArray,List.length_append,fm_length t8_len,t8_len]
    rw [Nat.sub_mul]; omega
   ·rw [Nat.zero_mul,List.drop_zero]
    simp only [Array.toList_append]
    rw [List.take_append_of_le_length,List.take_of_length_le,List.flatMap_append]
    ·simp
    ·simp [fm_length t8_len,t8_len]; omega
    ·simp [fm_length t8_len,t8_len]; omega
  ·exact ⟨rfl,rfl,rfl,(World.grownBy_alloc W.drew _ none).size,fun k hk _ => (World.grownBy_alloc W.drew _ none).block k hk (by simp)⟩
theorem step_append_by {P:Program} {ops:Array Oper} {o:Oper} {a:Act} {w:World} {K:Act→World→Prop} {Q:Exit→Act→World→Prop} {E:Prop}
  (hg:o.guard=none) (d x:Operand) (dT sT:TypeId) (hop:o.op=Op.call { callee:=Callee.builtin Builtin.append,args:=#[d,x],argTypes:=#[dT,sT] })
  (v u:Value) (hd:a.eval d=v) (hx:a.eval x=u) {v':Value} {w':World} (hr:(Builtin.append_ #[dT,sT] o.type #[v,u]).run P w=.ok v' w') (hK:K (a.put o.dst v') w') :
  if Region.wanted o (yielded ops a.tmps)=true then Oper.wp P o a w K Q else E:=by
 have hw:Region.wanted o (yielded ops a.tmps)=true:=by simp [Region.wanted,hg]
 rw [if_pos hw]
 unfold Oper.wp
 simp [execOp,hop,resolve,invoke,builtin,hd,hx,hr,Result.andThen]
 exact hK
variable {w:World} {D:Nat} {d:HD} {vs qs:Nat→Value} {pls:Nat→List (HP × Value)}
theorem upd_dimg_q {d:HD} {vs qs:Nat→Value} {k:Nat} (hk:k < 3) (q:List (Nat→Int)) (v:Value):∀ j,j < 16→upd (dimg d vs qs) (6+k) v j=dimg { d with q:=upd d.q k q } vs (upd qs k v) j:=by
 intro j hj
 by_cases e:j=6+k
 ·subst e; rw [upd_same,dimg_q hk,upd_same]
 ·rw [upd_other e]
  unfold dimg
  simp only
  by_cases h6:j < 6
  ·rw [if_pos h6,if_pos h6]
  ·rw [if_neg h6,if_neg h6]
   by_cases h9:j < 9
   ·rw [if_pos h9,if_pos h9,upd_other (by omega)]
   ·rw [if_neg h9,if_neg h9]
theorem typed_set {w:World} {b:Nat} {t:TypeId} (h:Typed w b t) (p:Addr) (u:Value):Typed (w.setCell p u) b t:=by
 obtain ⟨c,hc⟩:=h
 by_cases e:b=p.block
 ·subst e
  have:(w.setCell p u).heap[p.block]?=some (.cells (if p.spot.isSome then c else c.setIfInBounds p.off u) t (0,0)):=by
   simp [World.setCell,Array.getElem?_modify,hc]
  exact ⟨_,this⟩
 ·exact ⟨c,(Below.heap_setCell w p u b e).trans hc⟩
theorem DeskAt.setQ {w W':World} {D:Nat} {d:HD} {vs qs:Nat→Value} {pls:Nat→List (HP × Value)} (h:DeskAt w D d vs qs pls) {k:Nat} (hk:k < 3) (hf:Frm (fun b => (qs k).ownBlock=some b) w W') {q':List (Nat→Int)} {v':Value} (hq:QAt W' q' v')
  (hown:(∀ b,v'.ownBlock=some b→(qs k).ownBlock=some b) ∨ ∀ b,v'.ownBlock=some b→w.heap.size≤b) :
  DeskAt (W'.setCell ⟨D,6+k,none⟩ v') D { d with q:=upd d.q k q' } vs (upd qs k v') pls∧Frm (Owns D vs qs) w (W'.setCell ⟨D,6+k,none⟩ v')∧∀ b,Owns D vs (upd qs k v') b→Owns D vs qs b ∨ w.heap.size≤b:=by
 have hD:=h.typed.lt
 have nD:∀ b,(qs k).ownBlock=some b→b ≠ D:=fun b hb => ((h.queue k hk).typed b hb).ne h.typed (by decide)
 have hDf:W'.heap[D]?=w.heap[D]?:=hf.block D hD (fun e => nD D e rfl)
 have hTD:Typed W' D 116:=by obtain ⟨c,hc⟩:=h.typed; exact ⟨c,hDf.trans hc⟩
 have hfs:Frm (fun b => b=D) W' (W'.setCell ⟨D,6+k,none⟩ v'):=⟨rfl,rfl,rfl,by simp,fun b _ hb => Below.heap_setCell _ _ _ _ hb⟩
 have qlt:∀ b,(qs k).ownBlock=some b→b < w.heap.size:=fun b hb => ((h.queue k hk).typed b hb).lt
 have vown:∀ b,v'.ownBlock=some b→(qs k).ownBlock=some b ∨ w.heap.size≤b:=fun b hb => by
  rcases hown with x | x
  ·exact .inl (x b hb)
  ·exact .inr (x b hb)
 have hall:Frm (Owns D vs qs) w (W'.setCell ⟨D,6+k,none⟩ v'):=(hf.mono (fun b _ hb => .inr ⟨k,hk,.inr hb⟩)).trans (hfs.mono fun b _ hb => .inl hb)
 refine ⟨⟨?_,typed_set hTD _ _,fun j hj => ?_,fun j hj => ?_,h.apartV,fun i j b hi hj ne ei ej => ?_⟩,hall,fun b hb => ?_⟩
 ·exact ((h.img.of_block hDf).set (by omega) v').congr (upd_dimg_q hk q' v')
 ·refine ((h.chain j hj).frm hf (fun b hb hq => ?_) (fun b ht hq => ?_)).frm hfs (fun b hb e => ?_) (fun b ht e => ?_)
  ·exact ((typed_row (h.chain j hj).row b hb).ne ((h.queue k hk).typed b hq) (by decide)) rfl
  ·exact (ht.ne ((h.queue k hk).typed b hq) (by decide)) rfl
  ·exact ((typed_row (h.chain j hj).row b hb).ne h.typed (by decide)) e
  ·exact (ht.ne hTD (by decide)) e
 ·by_cases e:j=k
  ·subst e
   simp only [upd_same]
   exact hq.frm hfs fun b hb e => (hq.typed b hb).ne hTD (by decide) e
  ·simp only [upd_other e]
   refine ((h.queue j hj).frm hf (fun b hb hq => h.apartQ j k b hj hk e hb hq)).frm hfs fun b hb e => ((h.queue j hj).typed b hb).ne h.typed (by decide) e
 ·by_cases e1:i=k
  ·subst e1
   rw [upd_same] at ei
   have e2:j ≠ i:=fun x => ne x.symm
   rw [upd_other e2] at ej
   rcases vown b ei with x | x
   ·exact h.apartQ i j b hi hj ne x ej
   ·have:=((h.queue j hj).typed b ej).lt; omega
  ·rw [upd_other e1] at ei
   by_cases e2:j=k
   ·subst e2
    rw [upd_same] at ej
    rcases vown b ej with x | x
    ·exact h.apartQ i j b hi hj ne ei x
    ·have:=((h.queue i hi).typed b ei).lt; omega
   ·rw [upd_other e2] at ej
    exact h.apartQ i j b hi hj ne ei ej
 ·rcases hb with rfl | ⟨j,hj,hb | hb⟩
  ·exact .inl (.inl rfl)
  ·exact .inl (.inr ⟨j,hj,.inl hb⟩)
  ·by_cases e:j=k
   ·subst e
    rw [upd_same] at hb
    rcases vown b hb with x | x
    ·exact .inl (.inr ⟨j,hj,.inr x⟩)
    ·exact .inr x
   ·rw [upd_other e] at hb
    exact .inl (.inr ⟨j,hj,.inr hb⟩)
set_option maxHeartbeats 4000000 in
theorem Event_ok (h:DeskAt w D d vs qs pls) (k:Nat) (hk:k < 3) (told:Nat→Int) (hq:(d.q k).length < 20) :
  Calls Tryz.prog 35 #[.pointer (some ⟨D,0,none⟩),.int .i64 k,.agg (t8 told).toArray] w fun e w' => e=.returned .nilIface∧∃ qs',DeskAt w' D (d.event k told) vs qs' pls∧Frm (Owns D vs qs) w w'∧∀ b,Owns D vs qs' b→Owns D vs qs b ∨ w.heap.size≤b:=by
 have k0:¬ (k:Int) < 0:=by omega
 have k3:¬ 3≤(k:Int):=by omega
 have k4:(k:Int) < 3:=by omega
 have kq:¬ 20≤((d.q k).length:Int):=by omega
 unfold t8
 obtain ⟨og,cap,hqv⟩:=(h.queue k hk).form
 have c0:=(h.img.cell (6+k) (by omega)).trans (congrArg some (dimg_q hk))
 rw [hqv] at c0
 have g0:=h.img.free (6+k) (by omega)
 have hD:=h.typed.lt
 have H:=Lib.hid h
 clear h
 obtain ⟨W,hW⟩:∃ W,W=((w.alloc (.cells #[.int .i64 (told 0),.int .i64 (told 1),.int .i64 (told 2),.int .i64 (told 3),.int .i64 (told 4),.int .i64 (told 5),.int .i64 (told 6),.int .i64 (told 7)] 34)).alloc (.cells #[.int .i64 (told 0),.int .i64 (told 1),.int .i64 (told 2),.int .i64 (told 3),.int .i64 (told 4),.int .i64 (told 5),.int .i64 (told 6),.int .i64 (told 7)] 183)).drew:=⟨_,rfl⟩
 have hbW:Below w.heap.size w W:=hW ▸ (((Below.refl _ _).alloc (Nat.le_refl _) _).alloc (by simp) _).drew
 have hqW:QAt W (d.q k) (qs k):=(H.out.queue k hk).frm (M:=fun _ => False) (Frm.of hbW) (fun _ _ => id)
 obtain ⟨v',W',hrun,hq',hgr,hown⟩:=q_append W (d.q k) (qs k) told (w.heap.size+1) 1 hqW hq (fun j u hj => by
  rw [hW]
  have:=heap_alloc_new (w.alloc (.cells #[.int .i64 (told 0),.int .i64 (told 1),.int .i64 (told 2),.int .i64 (told 3),.int .i64 (told 4),.int .i64 (told 5),.int .i64 (told 6),.int .i64 (told 7)] 34)) (.cells #[.int .i64 (told 0),.int .i64 (told 1),.int .i64 (told 2),.int .i64 (told 3),.int .i64 (told 4),.int .i64 (told 5),.int .i64 (told 6),.int .i64 (told 7)] 183)
  rw [World.size_alloc] at this
  exact (cell_of_row _ (w.heap.size+1) j _ _ (0,0) this).trans (by simpa [t8] using hj))
 obtain ⟨og',cap',rfl⟩:=hq'.form
 have hDn:(qs k).ownBlock ≠ some D:=fun e => by
  have:=((H.out.queue k hk).typed D e).ne H.out.typed (by decide)
  exact this rfl
 have hDW:W.heap[D]?=w.heap[D]?:=hbW.block D hD
 have hDW':W'.heap[D]?=w.heap[D]?:=(hgr.block D (Nat.lt_of_lt_of_le hD hbW.size) (fun e => hDn e.symm)).trans hDW
 have c1:W'.cell? ⟨D,6+k,none⟩=some (.slice og (d.q k).length cap):=(World.cell?_of_block (w:=w) (a:=⟨D,6+k,none⟩) hDW').trans c0
 have g1:W'.frozen? ⟨D,6+k,none⟩=false:=(World.frozen?_of_block (w:=w) (a:=⟨D,6+k,none⟩) hDW').trans g0
 rw [hqv,hW] at hrun
 have HRUN:=hrun
 have mixed:Tryz.prog.follows .mixedOrders=true:=by kernel_rfl
 have HW:=Lib.hid hW
 have HBW:=Lib.hid hbW
 have HQ:=Lib.hid hq'
 have HG:=Lib.hid hgr
 have HDW:=Lib.hid hDW'
 clear hW hbW hqW hq' hgr hDW hDW' hrun
 go_enter Tryz.func35,Tryz.ntmps35
 go_upto_region 5 with fail
 go_region_law_o (refine step_append_by rfl (.tmp 32) (.tmp 35) 113 113 rfl (.slice og (d.q k).length cap) (.slice (some ⟨w.heap.size+1,0,none⟩) 1 1) (by simp [Act.eval,Act.put]) (by simp [Act.eval,Act.put]) (HRUN _) ?_)
 all_goals
  go_wp2_with fail
  go_ret
  refine ⟨rfl,upd qs k (.slice og' (d.q k++[told]).length cap'),?_⟩
  have hf:Frm (fun b => (qs k).ownBlock=some b) w W':=(Frm.of HBW.out).trans (Frm.grown HG.out (fun b hb => hb))
  have hset:=H.out.setQ hk hf HQ.out (by
   rcases hown with x | x
   ·exact .inl fun b hb => by rw [← x]; exact hb
   ·exact .inr fun b hb => Nat.le_trans HBW.out.size (x b hb))
  have he:d.event k told={ d with q:=upd d.q k (d.q k++[told]) }:=by unfold HD.event; rw [if_neg (by omega)]
  rw [he]
  simpa using hset
theorem Event_full (h:DeskAt w D d vs qs pls) (k:Nat) (hk:k < 3) (told:Nat→Int) (hq:20≤(d.q k).length) :
  Calls Tryz.prog 35 #[.pointer (some ⟨D,0,none⟩),.int .i64 k,.agg (t8 told).toArray] w fun e w' => e=.returned (.iface 30 (.int .i64 12))∧Below w.heap.size w w':=by
 have k0:¬ (k:Int) < 0:=by omega
 have k3:¬ 3≤(k:Int):=by omega
 have k4:(k:Int) < 3:=by omega
 have kq:20≤((d.q k).length:Int):=by omega
 unfold t8
 obtain ⟨og,cap,hqv⟩:=(h.queue k hk).form
 have c0:=(h.img.cell (6+k) (by omega)).trans (congrArg some (dimg_q hk))
 rw [hqv] at c0
 have hD:=h.typed.lt
 clear h
 go_enter Tryz.func35,Tryz.ntmps35
 go_wp2_with fail
 go_ret
 exact ⟨rfl,(Below.refl _ _).alloc (Nat.le_refl _) _⟩
end Go.Proofs.YtpdlmbbgioenoaaGreatDoor.W
namespace Go.Proofs.YtpdlmbbgioenoaaGreatDoor.W
open Go.RowKit Go.Proofs.YtpdlmbbgioenoaaGreatDoor.P
variable {w:World} {D:Nat} {d:HD} {vs qs:Nat→Value} {pls:Nat→List (HP × Value)}
theorem chain_form {w:World} {c:HC} {v:Value} {pl:List (HP × Value)} (h:ChainAt w c v pl):∃ og cap,v=.slice og pl.length cap:=by
 rcases h.row.2 with ⟨rfl,h0⟩ | ⟨g,cap,cur,rfl,_⟩
 ·exact ⟨_,_,by rw [h0]⟩
 ·exact ⟨_,_,rfl⟩
theorem upd_dimg_next {d:HD} {vs qs:Nat→Value} {k:Nat} (hk:k < 3) (x:Int):∀ j,j < 16→upd (dimg d vs qs) (k*2+1) (.int .i64 x) j=dimg { d with c:=upd d.c k ⟨(d.c k).l,x⟩ } vs qs j:=by
 intro j hj
 by_cases e:j=k*2+1
 ·subst e; rw [upd_same,(dimg_chain hk).2]; show _=Value.int .i64 (upd d.c k _ k).next; rw [upd_same]
 ·rw [upd_other e]
  unfold dimg
  simp only
  by_cases h6:j < 6
  ·rw [if_pos h6,if_pos h6]
   by_cases h2:j % 2=0
   ·rw [if_pos h2,if_pos h2]
   ·rw [if_neg h2,if_neg h2,upd_other (by omega)]
  ·rw [if_neg h6,if_neg h6]
theorem upd_dimg_v {d:HD} {vs qs:Nat→Value} {k:Nat} (hk:k < 3) (c:HC) (hc:c.next=(d.c k).next) (v:Value):∀ j,j < 16→upd (dimg d vs qs) (k*2) v j=dimg { d with c:=upd d.c k c } (upd vs k v) qs j:=by
 intro j hj
 by_cases e:j=k*2
 ·subst e; rw [upd_same,(dimg_chain hk).1,upd_same]
 ·rw [upd_other e]
  unfold dimg
  simp only
  by_cases h6:j < 6
  ·rw [if_pos h6,if_pos h6]
   by_cases h2:j % 2=0
   ·rw [if_pos h2,if_pos h2,upd_other (by omega)]
   ·rw [if_neg h2,if_neg h2]
    by_cases h3:j / 2=k
    ·rw [h3,upd_same,hc]
    ·rw [upd_other h3]
  ·rw [if_neg h6,if_neg h6]
theorem DeskAt.setNext {w:World} {D:Nat} {d:HD} {vs qs:Nat→Value} {pls:Nat→List (HP × Value)} (h:DeskAt w D d vs qs pls) {k:Nat} (hk:k < 3) (x:Int) :
  DeskAt (w.setCell ⟨D,k*2+1,none⟩ (.int .i64 x)) D { d with c:=upd d.c k ⟨(d.c k).l,x⟩ } vs qs pls∧Frm (fun b => b=D) w (w.setCell ⟨D,k*2+1,none⟩ (.int .i64 x)):=by
 have hfs:Frm (fun b => b=D) w (w.setCell ⟨D,k*2+1,none⟩ (.int .i64 x)):=⟨rfl,rfl,rfl,by simp,fun b _ hb => Below.heap_setCell _ _ _ _ hb⟩
 refine ⟨⟨(h.img.set (by omega) _).congr (upd_dimg_next hk x),typed_set h.typed _ _,fun j hj => ?_,fun j hj => ?_,h.apartV,h.apartQ⟩,hfs⟩
 ·have hc:=(h.chain j hj).frm hfs (fun b hb e => ((typed_row (h.chain j hj).row b hb).ne h.typed (by decide)) e) (fun b ht e => (ht.ne h.typed (by decide)) e)
  by_cases e:j=k
  ·subst e
   simp only [upd_same]
   exact ⟨hc.l,hc.row,hc.code,hc.sorted,hc.short⟩
  ·simp only [upd_other e]; exact hc
 ·exact (h.queue j hj).frm hfs (fun b hb e => ((h.queue j hj).typed b hb).ne h.typed (by decide) e)
theorem DeskAt.setV {w W':World} {D:Nat} {d:HD} {vs qs:Nat→Value} {pls:Nat→List (HP × Value)} (h:DeskAt w D d vs qs pls) {k:Nat} (hk:k < 3) (hf:Frm (fun b => (vs k).ownBlock=some b) w W') {c':HC} {v':Value} {pl':List (HP × Value)} (hq:ChainAt W' c' v' pl') (hnext:c'.next=(d.c k).next)
  (hown:∀ b,v'.ownBlock=some b→(vs k).ownBlock=some b ∨ w.heap.size≤b) :
  DeskAt (W'.setCell ⟨D,k*2,none⟩ v') D { d with c:=upd d.c k c' } (upd vs k v') qs (upd pls k pl')∧Frm (Owns D vs qs) w (W'.setCell ⟨D,k*2,none⟩ v')∧∀ b,Owns D (upd vs k v') qs b→Owns D vs qs b ∨ w.heap.size≤b:=by
 have hD:=h.typed.lt
 have tv:∀ b,(vs k).ownBlock=some b→Typed w b 134:=fun b hb => typed_row (h.chain k hk).row b hb
 have nD:∀ b,(vs k).ownBlock=some b→b ≠ D:=fun b hb => (tv b hb).ne h.typed (by decide)
 have hDf:W'.heap[D]?=w.heap[D]?:=hf.block D hD (fun e => nD D e rfl)
 have hTD:Typed W' D 116:=by obtain ⟨c,hc⟩:=h.typed; exact ⟨c,hDf.trans hc⟩
 have hfs:Frm (fun b => b=D) W' (W'.setCell ⟨D,k*2,none⟩ v'):=⟨rfl,rfl,rfl,by simp,fun b _ hb => Below.heap_setCell _ _ _ _ hb⟩
 have hall:Frm (Owns D vs qs) w (W'.setCell ⟨D,k*2,none⟩ v'):=(hf.mono (fun b _ hb => .inr ⟨k,hk,.inl hb⟩)).trans (hfs.mono fun b _ hb => .inl hb)
 refine ⟨⟨?_,typed_set hTD _ _,fun j hj => ?_,fun j hj => ?_,fun i j b hi hj ne ei ej => ?_,h.apartQ⟩,hall,fun b hb => ?_⟩
 ·exact ((h.img.of_block hDf).set (by omega) v').congr (upd_dimg_v hk c' hnext v')
 ·by_cases e:j=k
  ·subst e
   simp only [upd_same]
   exact hq.frm hfs (fun b hb e => (typed_row hq.row b hb).ne hTD (by decide) e) (fun b ht e => (ht.ne hTD (by decide)) e)
  ·simp only [upd_other e]
   refine ((h.chain j hj).frm hf (fun b hb hq => h.apartV j k b hj hk e hb hq) (fun b ht hq => (ht.ne (tv b hq) (by decide)) rfl)).frm hfs (fun b hb e => ?_) (fun b ht e => (ht.ne hTD (by decide)) e)
   exact ((typed_row (h.chain j hj).row b hb).ne h.typed (by decide)) e
 ·refine ((h.queue j hj).frm hf (fun b hb hq => ?_)).frm hfs fun b hb e => ((h.queue j hj).typed b hb).ne h.typed (by decide) e
  exact (((h.queue j hj).typed b hb).ne (tv b hq) (by decide)) rfl
 ·by_cases e1:i=k
  ·subst e1
   rw [upd_same] at ei
   have e2:j ≠ i:=fun x => ne x.symm
   rw [upd_other e2] at ej
   rcases hown b ei with x | x
   ·exact h.apartV i j b hi hj ne x ej
   ·have:=(typed_row (h.chain j hj).row b ej).lt; omega
  ·rw [upd_other e1] at ei
   by_cases e2:j=k
   ·subst e2
    rw [upd_same] at ej
    rcases hown b ej with x | x
    ·exact h.apartV i j b hi hj ne ei x
    ·have:=(typed_row (h.chain i hi).row b ei).lt; omega
   ·rw [upd_other e2] at ej
    exact h.apartV i j b hi hj ne ei ej
 ·rcases hb with rfl | ⟨j,hj,hb | hb⟩
  ·exact .inl (.inl rfl)
  ·by_cases e:j=k
   ·subst e
    rw [upd_same] at hb
    rcases hown b hb with x | x
    ·exact .inl (.inr ⟨j,hj,.inl x⟩)
    ·exact .inr x
   ·rw [upd_other e] at hb
    exact .inl (.inr ⟨j,hj,.inl hb⟩)
  ·exact .inl (.inr ⟨j,hj,.inr hb⟩)
theorem put_at {l:List HP} {i:Nat} (hi:i≤l.length) (x:HP) (j:Nat):(l.take i++x :: l.drop i)[j]?=if j < i then l[j]? else if j=i then some x else l[j - 1]?:=by
 have ht:(l.take i).length=i:=by rw [List.length_take]; omega
 by_cases h1:j < i
 ·rw [if_pos h1,List.getElem?_append_left (by omega),List.getElem?_take,if_pos h1]
 ·rw [if_neg h1,List.getElem?_append_right (by omega),ht]
  by_cases h2:j=i
  ·rw [if_pos h2,h2,Nat.sub_self]; rfl
  ·rw [if_neg h2]
   obtain ⟨m,hm⟩:∃ m,j - i=m+1:=⟨j - i - 1,by omega⟩
   rw [hm,List.getElem?_cons_succ,List.getElem?_drop]
   congr 1; omega
theorem sorted_put {l:List HP} (h:Sorted l) (x:HP):Sorted (l.take (hpos l x.rank)++x :: l.drop (hpos l x.rank)):=by
 have hi:hpos l x.rank≤l.length:=List.findIdx_le_length
 have h1:∀ (j:Nat) (p:HP),j < hpos l x.rank→l[j]?=some p→p.rank≤x.rank:=fun j p hj hp => by
  have:=List.not_of_lt_findIdx (p:=fun p:HP => decide (x.rank < p.rank)) hj
  have hjl:j < l.length:=by omega
  rw [List.getElem?_eq_getElem hjl] at hp
  injection hp with hp
  subst hp
  simpa using this
 have h2:∀ (p:HP),l[hpos l x.rank]?=some p→x.rank < p.rank:=fun p hp => by
  have hlt:hpos l x.rank < l.length:=(List.getElem?_eq_some_iff.1 hp).1
  have:=List.findIdx_getElem (p:=fun p:HP => decide (x.rank < p.rank)) (xs:=l) (w:=hlt)
  rw [List.getElem?_eq_getElem hlt] at hp
  injection hp with hp
  subst hp
  exact of_decide_eq_true this
 generalize hpos l x.rank=i at hi h1 h2
 intro a b p q hab hp hq
 rw [put_at hi] at hp hq
 split at hp
 ·split at hq
  ·exact h a b p q hab hp hq
  ·split at hq
   ·injection hq with hq; subst hq; exact h1 a p (by omega) hp
   ·exact h a (b - 1) p q (by omega) hp hq
 ·split at hp
  ·injection hp with hp; subst hp
   rw [if_neg (by omega)] at hq
   split at hq
   ·injection hq with hq; subst hq; exact Int.le_refl _
   ·have hil:i < l.length:=by have:=(List.getElem?_eq_some_iff.1 hq).1; omega
    have:=h2 _ (List.getElem?_eq_getElem hil)
    have:=h i (b - 1) _ q (by omega) (List.getElem?_eq_getElem hil) hq
    omega
  ·rw [if_neg (by omega),if_neg (by omega)] at hq
   exact h (a - 1) (b - 1) p q (by omega) hp hq
theorem first_nth (L:List Step):first (nth L) L.length=L:=by
 apply List.ext_getElem?
 intro j
 by_cases hj:j < L.length
 ·unfold first nth
  rw [List.getElem?_map,List.getElem?_range hj,List.getElem?_eq_getElem hj]
  simp [List.getD_eq_getElem?_getD,List.getElem?_eq_getElem hj]
 ·rw [List.getElem?_eq_none (by rw [first_length]; omega),List.getElem?_eq_none (by omega)]
theorem code_form {w:World} {x:HP × Value} (h:CodeAt w x):∃ og n c,x.2=.slice og n c:=by
 rcases h.2 with ⟨h,_⟩ | ⟨g,c,cur,h,_⟩ <;> exact ⟨_,_,_,h⟩
theorem pcells_one {x:HP × Value} (h:∃ og n c,x.2=.slice og n c):∀ u ∈ pcells x,u.oneCell'=true:=by
 obtain ⟨og,n,c,h⟩:=h
 intro u hu
 unfold pcells p19 at hu
 rw [h] at hu
 simp only [List.mem_cons,List.not_mem_nil,or_false] at hu
 rcases hu with rfl | rfl | rfl | rfl | rfl | rfl | rfl | rfl | rfl | rfl | rfl | rfl | rfl | rfl | rfl | rfl | rfl | rfl | rfl <;> rfl
theorem rows_one {w:World} {pl:List (HP × Value)} (h:∀ x ∈ pl,CodeAt w x):∀ u ∈ rowsV pl,u.oneCell'=true:=by
 intro u hu
 obtain ⟨x,hx,ht⟩:=List.mem_flatMap.1 hu
 exact pcells_one (code_form (h x hx)) u ht
theorem addr_block (a:Addr) (n:Nat):(a.add n).block=a.block:=by unfold Addr.add; split <;> rfl
theorem Cells.frm {M:Nat→Prop} {w w':World} {a:Addr} {S:Nat→Step} {n:Nat} (h:Cells w a S n) (hf:Frm M w w') (ha:¬ M a.block):Cells w' a S n:=by
 intro i hi
 obtain ⟨e0,e1,e2,e3,e4,e5⟩:=h i hi
 have nb:¬ M (a.add (i*6)).block:=by rw [addr_block]; exact ha
 exact ⟨hf.cell e0 nb,hf.cell e1 nb,hf.cell e2 nb,hf.cell e3 nb,hf.cell e4 nb,hf.cell e5 nb⟩
theorem verify_len {S:Nat→Step} {n:Nat} (h:(verify S n).1.1=0):1≤n∧n≤200:=by
 by_cases hn:n < 1 ∨ 200 < n
 ·unfold verify check at h; rw [if_pos hn] at h; simp at h
 ·omega
theorem upd_upd2 {α:Type} (f:Nat→α) (i:Nat) (a b:α):upd (upd f i a) i b=upd f i b:=by
 funext j
 by_cases e:j=i
 ·subst e; rw [upd_same,upd_same]
 ·rw [upd_other e,upd_other e,upd_other e]
theorem attach_post {w w3 w4 w5 w6:World} {D:Nat} {d:HD} {vs qs:Nat→Value} {pls:Nat→List (HP × Value)} {k n i:Nat} {L:List Step} {rank:Int} {v5 v6:Value} {o:Obj} (h:DeskAt w D d vs qs pls) (hk:k < 3)
  (h3:DeskAt w3 D { d with c:=upd d.c k ⟨(d.c k).l,(d.c k).next+1⟩ } vs qs pls) (hF3:Frm (fun b => b=D) w w3) (hb4:Below w3.heap.size w3 w4) (hb5:Below w4.heap.size w4 w5)
  (hrow5:w5.ownsRow w4.heap.size 81 6 v5 L.length (rowOf (first (nth L) L.length))) (hg6:(w5.alloc o).grownBy w6 (vs k).ownBlock)
  (hrow6:w6.ownsRow 0 134 19 v6 (n+1) ((rowsV (pls k)).take (i*19)++pcells (⟨(d.c k).next+1,rank,L,fun _ => 0⟩,v5)++(rowsV (pls k)).drop (i*19)))
  (hown:v6.ownBlock=(vs k).ownBlock ∨ ∀ b,v6.ownBlock=some b→(w5.alloc o).heap.size≤b) (hn:(pls k).length=n) (hi:hpos (d.c k).l rank=i) (hn8:n < 8) (hv:(verify (nth L) L.length).1.1=0) :
  ∃ vs' pls',DeskAt (w6.setCell ⟨D,k*2,none⟩ v6) D (d.attach k L rank) vs' qs pls'∧Frm (Owns D vs qs) w (w6.setCell ⟨D,k*2,none⟩ v6)∧∀ b,Owns D vs' qs b→Owns D vs qs b ∨ w.heap.size≤b:=by
 have hch:=h3.chain k hk
 have hcl:(pls k).map (·.1)=(d.c k).l:=by have:=hch.l; simp only [upd_same] at this; exact this
 have hlen:(d.c k).l.length=n:=by rw [← hcl,List.length_map,hn]
 have hb35:Below w3.heap.size w3 w5:=hb4.trans (hb5.mono hb4.size)
 have hf5:Frm (fun b => (vs k).ownBlock=some b) w3 (w5.alloc o):=Frm.of (hb35.alloc hb35.size o)
 have hf6:Frm (fun b => (vs k).ownBlock=some b) w3 w6:=hf5.trans (Frm.grown hg6 (fun b hb => hb))
 have tv:∀ b,(vs k).ownBlock=some b→Typed w3 b 134:=fun b hb => typed_row hch.row b hb
 have hfn:Frm (fun b => (vs k).ownBlock=some b) w5 w6:=((Frm.of ((Below.refl w5.heap.size w5).alloc (Nat.le_refl _) o)).trans (Frm.grown hg6 (fun b hb => hb)))
 have hx5:CodeAt w6 ((⟨(d.c k).next+1,rank,L,fun _ => 0⟩:HP),v5):=by
  have h5:w5.ownsRow 0 81 6 v5 L.length (rowOf L):=by
   have:=row_weaken hrow5 (Nat.zero_le _)
   rwa [first_nth] at this
  refine hfn.row h5 fun b hb hq => ?_
  have h1:=(hrow5.lt b hb).1
  have h2:=(tv b hq).lt
  have:=hb4.size
  omega
 have hsz:w.heap.size≤w3.heap.size:=hF3.size
 have hchain:ChainAt w6 ((d.c k).put L rank) v6 ((pls k).take i++(⟨(d.c k).next+1,rank,L,fun _ => 0⟩,v5) :: (pls k).drop i):=by
  refine ⟨?_,?_,fun x hx => ?_,?_,?_⟩
  ·unfold HC.put
   rw [hi,List.map_append,List.map_cons,List.map_take,List.map_drop,hcl]
  ·rw [rowsV_insert] at hrow6
   have:((pls k).take i++((⟨(d.c k).next+1,rank,L,fun _ => 0⟩:HP),v5) :: (pls k).drop i).length=n+1:=by
    simp only [List.length_append,List.length_cons,List.length_take,List.length_drop]; omega
   rw [this]; exact hrow6
  ·have old:∀ y ∈ pls k,CodeAt w6 y:=fun y hy => hf6.row (hch.code y hy) fun b hb hq => ((typed_row (hch.code y hy) b hb).ne (tv b hq) (by decide)) rfl
   rcases List.mem_append.1 hx with hx | hx
   ·exact old x (List.mem_of_mem_take hx)
   ·rcases List.mem_cons.1 hx with e | hx
    ·subst e; exact hx5
    ·exact old x (List.mem_of_mem_drop hx)
  ·have hs:Sorted (d.c k).l:=by have:=hch.sorted; simp only [upd_same] at this; exact this
   exact sorted_put hs ⟨(d.c k).next+1,rank,L,fun _ => 0⟩
  ·simp only [List.length_append,List.length_cons,List.length_take,List.length_drop]; omega
 obtain ⟨r1,r2,r3⟩:=h3.setV hk hf6 (c':=(d.c k).put L rank) hchain (by simp only [upd_same]; rfl) (fun b hb => by
  rcases hown with x | x
  ·exact .inl (x ▸ hb)
  ·refine .inr ?_
   have h1:=x b hb
   have h2:=hb35.size
   simp at h1
   omega)
 have hD:∀ b,b=D→Owns D vs qs b:=fun b e => .inl e
 refine ⟨upd vs k v6,upd pls k ((pls k).take i++(⟨(d.c k).next+1,rank,L,fun _ => 0⟩,v5) :: (pls k).drop i),?_,(hF3.mono fun b _ e => hD b e).trans r2,fun b hb => ?_⟩
 ·have e:d.attach k L rank={ ({ d with c:=upd d.c k ⟨(d.c k).l,(d.c k).next+1⟩ }:HD) with c:=upd (upd d.c k ⟨(d.c k).l,(d.c k).next+1⟩) k ((d.c k).put L rank) }:=by
   unfold HD.attach HC.attach
   rw [if_neg (by simp [hv]),if_neg (by omega),upd_upd2]
  rw [e]; exact r1
 ·rcases r3 b hb with x | x
  ·exact .inl x
  ·exact .inr (by omega)
set_option maxHeartbeats 16000000 in
theorem Attach_ok (h:DeskAt w D d vs qs pls) (k:Nat) (hk:k < 3) (oa:Option Addr) (cap:Nat) (L:List Step) (rank:Int) (hcap:L.length≤cap) (hs:ProgAt w oa (nth L) L.length) (hno:∀ a,oa=some a→¬ Owns D vs qs a.block) (hin:∀ j,j < L.length→In64 (nth L j).off∧In64 (nth L j).num) (hg:ErrT w)
  (hnx:0≤(d.c k).next∧(d.c k).next < 1000000) (hv:(verify (nth L) L.length).1.1=0) (h8:(d.c k).l.length < 8) :
  Calls Tryz.prog 36 #[.pointer (some ⟨D,k*2,none⟩),.slice oa L.length cap,.int .i64 rank] w fun e w' => e=.returned (.tuple #[.int .i64 ((d.c k).next+1),.nilIface]) ∧
   ∃ vs' pls',DeskAt w' D (d.attach k L rank) vs' qs pls'∧Frm (Owns D vs qs) w w'∧∀ b,Owns D vs' qs b→Owns D vs qs b ∨ w.heap.size≤b:=by
 obtain ⟨og,cc,hvk⟩:=chain_form (h.chain k hk)
 have hpl:(pls k).length=(d.c k).l.length:=by rw [← (h.chain k hk).l,List.length_map]
 obtain ⟨n,hn⟩:∃ n,(pls k).length=n:=⟨_,rfl⟩
 rw [hn] at hvk
 have hn8:n < 8:=by omega
 have c0:=(h.img.cell (k*2) (by omega)).trans (congrArg some (dimg_chain hk).1)
 have c1:=(h.img.cell (k*2+1) (by omega)).trans (congrArg some (dimg_chain hk).2)
 rw [hvk] at c0
 have g0:=h.img.free (k*2) (by omega)
 have g1:=h.img.free (k*2+1) (by omega)
 have C1:=fun w' (hb:Below w.heap.size w w') => Verify_full oa L.length cap (nth L) hcap w' (hs.later hb) hin (hg.later hb)
 have HVER:=Lib.hid hv
 obtain ⟨hl1,hl2⟩:=verify_len hv
 obtain ⟨a,rfl,hcs⟩:=hs (by omega)
 have HCS:=Lib.hid hcs
 clear hcs
 generalize verify (nth L) L.length=X at C1 hv
 obtain ⟨⟨er,p⟩,⟨lo,hi⟩⟩:=X
 obtain rfl:er=0:=hv
 have H:=Lib.hid h
 have HC1:=Lib.hid C1
 have HS:=Lib.hid hs
 have HIN:=Lib.hid hin
 have hD:=h.typed.lt
 have k8:¬ 8≤(n:Int):=by omega
 have HN:=Lib.hid hn
 have HVK:=Lib.hid hvk
 clear h C1 hs hin hpl hn hvk
 go_enter Tryz.func36,Tryz.ntmps36
 go_wp2_with fail
 refine (HC1.out _ (Below.refl _ _)).mono ?_
 rintro e w1 ⟨v,rfl,he,hb⟩
 obtain rfl:=rerr_nil he
 clear he
 simp only
 go_upto_region 2 with fail
 generalize hW:World.alloc w1 _=w2
 have hb2:Below w.heap.size w w2:=hW ▸ (hb.alloc hb.size _)
 have c02:=(hb2.cell (p:=⟨D,k*2,none⟩) hD).trans c0
 have c12:=(hb2.cell (p:=⟨D,k*2+1,none⟩) hD).trans c1
 have g02:=(hb2.frozen (p:=⟨D,k*2,none⟩) hD).trans g0
 have g12:=(hb2.frozen (p:=⟨D,k*2+1,none⟩) hD).trans g1
 have HB2:=Lib.hid hb2
 clear hW hb hb2 c0 c1 g0 g1
 have hw1:IntKind.i64.wrap ((d.c k).next+1)=(d.c k).next+1:=by rw [IntKind.wrap_i64]; omega
 go_upto_region 7 with fail
 obtain ⟨hd3,hf3⟩:=(H.out.later HB2.out).setNext hk ((d.c k).next+1)
 generalize hW:World.setCell w2 _ _=w3 at hd3 hf3
 have HD3:=Lib.hid hd3
 have HF3:=Lib.hid ((Frm.of HB2.out (M:=fun b => b=D)).trans hf3)
 have HCH:=Lib.hid (show ChainAt w3 ⟨(d.c k).l,(d.c k).next+1⟩ (vs k) (pls k) from by have:=hd3.chain k hk; simp only [upd_same] at this; exact this)
 have c03:=(hd3.img.cell (k*2) (by omega)).trans (congrArg some (dimg_chain hk).1)
 rw [HVK.out] at c03
 have c13:=(hd3.img.cell (k*2+1) (by omega)).trans (congrArg some (dimg_chain hk).2)
 simp only [upd_same] at c13
 have g03:=hd3.img.free (k*2) (by omega)
 have hD3:=hd3.typed.lt
 clear hW hd3 hf3 c02 c12 g02 g12 hw1
 have HLK:=Lib.hid (show (pls k).map (·.1)=(d.c k).l from HCH.out.l)
 have hsr:=Search_any (pls k) (vs k) rank (by have:=HN.out; omega) 0 w3 HCH.out.row (by rw [HLK.out]; exact HCH.out.sorted)
 rw [HVK.out,HLK.out] at hsr
 obtain ⟨i,hi⟩:∃ i,hpos (d.c k).l rank=i:=⟨_,rfl⟩
 rw [hi] at hsr
 have hin:i≤n:=by
  have h1:i≤(d.c k).l.length:=hi ▸ List.findIdx_le_length
  have h2:(pls k).length=(d.c k).l.length:=by rw [← HLK.out,List.length_map]
  have:=HN.out; omega
 have HI:=Lib.hid hi
 have HSR:=Lib.hid hsr
 clear hi hsr
 go_wp2_with fail
 refine HSR.out.mono ?_
 rintro e w4 ⟨rfl,hb⟩
 have c04:=(hb.cell (p:=⟨D,k*2,none⟩) hD3).trans c03
 have c14:=(hb.cell (p:=⟨D,k*2+1,none⟩) hD3).trans c13
 have g04:=(hb.frozen (p:=⟨D,k*2,none⟩) hD3).trans g03
 have HB4:=Lib.hid hb
 have HF4:=Lib.hid (HF3.out.trans (Frm.of hb))
 have HC4:=Lib.hid (HCS.out.frm HF4.out (fun e => hno a rfl (.inl e)))
 have hD4:D < w4.heap.size:=Nat.lt_of_lt_of_le hD3 hb.size
 clear hb c03 c13 g03
 have hnd:(Value.slice og n cc).ownBlock ≠ some D:=fun e => by
  have e':(vs k).ownBlock=some D:=by rw [HVK.out]; exact e
  exact ((typed_row HCH.out.row D e').ne HD3.out.typed (by decide)) rfl
 go_upto_region 8 with fail
 go_region_with (first
   | (go_at_call 74; refine (Clone_any a L.length cap (nth L) hl2 _ ?_).mono ?_; (exact HC4.out); rintro e w5 ⟨v5,rfl,hrow5,hb5⟩; obtain ⟨og5,cap5,rfl⟩:=own_form hrow5; have HROW5:=Lib.hid hrow5; have HB5:=Lib.hid (show Below w4.heap.size w4 w5 from ⟨hb5.os,hb5.tape,hb5.output,hb5.size,hb5.block⟩); have hrw5:=row_later (row_later HCH.out.row HB4.out) HB5.out; rw [HVK.out,HN.out] at hrw5; have HRW5:=Lib.hid hrw5; clear hrw5; have hD5:D < w5.heap.size:=Nat.lt_of_lt_of_le hD4 HB5.out.size; have nD5:¬ D=w5.heap.size:=(by omega); have mD5:¬ w5.heap.size=D:=(by omega); have c05:=(HB5.out.cell (p:=⟨D,k*2,none⟩) hD4).trans c04; have c15:=(HB5.out.cell (p:=⟨D,k*2+1,none⟩) hD4).trans c14; have g05:=(HB5.out.frozen (p:=⟨D,k*2,none⟩) hD4).trans g04; clear hrow5 hb5)
   | (go_at_call 73; refine (Insert_any 0 (.slice og n cc) n i (rowsV (pls k)) (pcells (⟨(d.c k).next+1,rank,L,fun _ => 0⟩,.slice og5 L.length cap5)) w5.heap.size 1 _ _ hn8 hin (Nat.zero_le _) ?_ (rows_one HCH.out.code) ?_ (heap_alloc_new w5 _) rfl rfl (pcells_one ⟨_,_,_,rfl⟩)).mono ?_; (exact HRW5.out.alloc _); (exact fun e => by have:=(HRW5.out.lt _ e).2; omega); rintro e w6 ⟨v6,rfl,hrow6,hg6,ho6⟩; have HO6:=Lib.hid ho6; clear ho6; obtain ⟨og6,cap6,rfl⟩:=own_form hrow6; have hD6:w6.heap[D]?=w5.heap[D]?:=(hg6.block D (by simp; omega) (fun e => hnd e.symm)).trans (Below.heap_alloc w5 _ D hD5); have c06:=(World.cell?_of_block (w:=w5) (a:=⟨D,k*2,none⟩) hD6).trans c05; have c16:=(World.cell?_of_block (w:=w5) (a:=⟨D,k*2+1,none⟩) hD6).trans c15; have g06:=(World.frozen?_of_block (w:=w5) (a:=⟨D,k*2,none⟩) hD6).trans g05; have HROW6:=Lib.hid hrow6; have HG6:=Lib.hid hg6; clear hrow6 hg6 hD6))
 all_goals
  go_wp2_with fail
  refine bodyPost_ret (v:=.tuple #[.int .i64 ((d.c k).next+1),.nilIface]) (by simp [results,Tryz.results36,go_sem]) rfl ⟨rfl,?_⟩
  exact attach_post H.out hk HD3.out HF3.out HB4.out HB5.out HROW5.out (by rw [HVK.out]; exact HG6.out) HROW6.out (by rw [HVK.out]; exact HO6.out) HN.out HI.out hn8 HVER.out
set_option maxHeartbeats 4000000 in
theorem Attach_err (p:Addr) (oa:Option Addr) (cap:Nat) (L:List Step) (rank:Int) (w:World) (hcap:L.length≤cap) (hs:ProgAt w oa (nth L) L.length) (hin:∀ j,j < L.length→In64 (nth L j).off∧In64 (nth L j).num) (hg:ErrT w) (hv:(verify (nth L) L.length).1.1 ≠ 0) :
  Calls Tryz.prog 36 #[.pointer (some p),.slice oa L.length cap,.int .i64 rank] w fun e w' => (∃ er,e=.returned (.tuple #[.int .i64 0,er])∧ErrIs w' er (verify (nth L) L.length).1.1 (verify (nth L) L.length).1.2)∧Below w.heap.size w w':=by
 have C1:=Verify_full oa L.length cap (nth L) hcap w hs hin hg
 generalize verify (nth L) L.length=X at C1 hv ⊢
 obtain ⟨⟨er,q⟩,⟨lo,hi⟩⟩:=X
 have HC1:=Lib.hid C1
 have HV:=Lib.hid hv
 clear C1 hs hin hg hv
 go_enter Tryz.func36,Tryz.ntmps36
 go_wp2_with fail
 refine HC1.out.mono ?_
 rintro e w1 ⟨v,rfl,he,hb⟩
 obtain ⟨et,ex,rfl⟩:=rerr_iface he HV.out
 have HE:=Lib.hid (he.later ((Below.refl w1.heap.size w1).alloc (Nat.le_refl _) (.cells #[.int .i64 lo,.int .i64 hi] 76)))
 have HB:=Lib.hid hb
 clear he hb
 simp only
 go_wp2_with fail
 exact bodyPost_ret (v:=.tuple #[.int .i64 0,.iface et ex]) (by simp [results,Tryz.results36,go_sem]) rfl ⟨⟨_,rfl,HE.out⟩,HB.out.alloc HB.out.size _⟩
set_option maxHeartbeats 4000000 in
theorem Attach_full (h:DeskAt w D d vs qs pls) (k:Nat) (hk:k < 3) (oa:Option Addr) (cap:Nat) (L:List Step) (rank:Int) (hcap:L.length≤cap) (hs:ProgAt w oa (nth L) L.length) (hin:∀ j,j < L.length→In64 (nth L j).off∧In64 (nth L j).num) (hg:ErrT w)
  (hv:(verify (nth L) L.length).1.1=0) (h8:8≤(d.c k).l.length) :
  Calls Tryz.prog 36 #[.pointer (some ⟨D,k*2,none⟩),.slice oa L.length cap,.int .i64 rank] w fun e w' => e=.returned (.tuple #[.int .i64 0,.iface 30 (.int .i64 12)])∧Below w.heap.size w w':=by
 obtain ⟨og,cc,hvk⟩:=chain_form (h.chain k hk)
 have hpl:(pls k).length=(d.c k).l.length:=by rw [← (h.chain k hk).l,List.length_map]
 have c0:=(h.img.cell (k*2) (by omega)).trans (congrArg some (dimg_chain hk).1)
 rw [hvk,hpl] at c0
 have C1:=Verify_full oa L.length cap (nth L) hcap w hs hin hg
 generalize verify (nth L) L.length=X at C1 hv
 obtain ⟨⟨er,q⟩,⟨lo,hi⟩⟩:=X
 obtain rfl:er=0:=hv
 have HC1:=Lib.hid C1
 have hD:=h.typed.lt
 have k8:8≤((d.c k).l.length:Int):=by omega
 clear h C1 hs hin hg hpl
 go_enter Tryz.func36,Tryz.ntmps36
 go_wp2_with fail
 refine HC1.out.mono ?_
 rintro e w1 ⟨v,rfl,he,hb⟩
 obtain rfl:=rerr_nil he
 have c01:=(hb.cell (p:=⟨D,k*2,none⟩) hD).trans c0
 have hD1:D < w1.heap.size:=Nat.lt_of_lt_of_le hD hb.size
 have HB:=Lib.hid hb
 clear he hb c0
 simp only
 go_wp2_with fail
 exact bodyPost_ret (v:=.tuple #[.int .i64 0,.iface 30 (.int .i64 12)]) (by simp [results,Tryz.results36,go_sem]) rfl ⟨rfl,HB.out.alloc HB.out.size _⟩
theorem Attach_any (h:DeskAt w D d vs qs pls) (k:Nat) (hk:k < 3) (oa:Option Addr) (cap:Nat) (L:List Step) (rank:Int) (hcap:L.length≤cap) (hs:ProgAt w oa (nth L) L.length) (hno:∀ a,oa=some a→¬ Owns D vs qs a.block) (hin:∀ j,j < L.length→In64 (nth L j).off∧In64 (nth L j).num) (hg:ErrT w)
  (hnx:0≤(d.c k).next∧(d.c k).next < 1000000) :
  Calls Tryz.prog 36 #[.pointer (some ⟨D,k*2,none⟩),.slice oa L.length cap,.int .i64 rank] w fun e w' => (∃ er,e=.returned (.tuple #[.int .i64 ((d.c k).attach L rank).2.1,er])∧ErrIs w' er ((d.c k).attach L rank).2.2.1 ((d.c k).attach L rank).2.2.2) ∧
   ∃ vs' pls',DeskAt w' D (d.attach k L rank) vs' qs pls'∧Frm (Owns D vs qs) w w'∧∀ b,Owns D vs' qs b→Owns D vs qs b ∨ w.heap.size≤b:=by
 have same:∀ x:HC × Int × (Int × Int),x.1=d.c k→(d.c k).attach L rank=x→d.attach k L rank=d:=fun x e1 e2 => by
  unfold HD.attach
  rw [e2,e1]
  have:upd d.c k (d.c k)=d.c:=by
   funext j
   by_cases e:j=k
   ·subst e; rw [upd_same]
   ·rw [upd_other e]
  rw [this]
 by_cases hv:(verify (nth L) L.length).1.1=0
 ·by_cases h8:(d.c k).l.length < 8
  ·have e:(d.c k).attach L rank=((d.c k).put L rank,(d.c k).next+1,(0,-1)):=by unfold HC.attach; rw [if_neg (by simp [hv]),if_neg (by omega)]
   rw [e]
   exact (Attach_ok h k hk oa cap L rank hcap hs hno hin hg hnx hv h8).mono fun e w' ⟨he,hp⟩ => ⟨⟨_,he,.inl ⟨rfl,rfl,rfl⟩⟩,hp⟩
  ·have e:(d.c k).attach L rank=(d.c k,0,(12,-1)):=by unfold HC.attach; rw [if_neg (by simp [hv]),if_pos (by omega)]
   rw [same _ rfl e,e]
   exact (Attach_full h k hk oa cap L rank hcap hs hin hg hv (by omega)).mono fun e w' ⟨he,hb⟩ => ⟨⟨_,he,.inr (.inl ⟨show (12:Int) ≠ 0 by decide,rfl,rfl⟩)⟩,vs,pls,h.later hb,Frm.of hb,fun b hb => .inl hb⟩
 ·have e:(d.c k).attach L rank=(d.c k,0,(verify (nth L) L.length).1):=by unfold HC.attach; rw [if_pos hv]
  rw [same _ rfl e,e]
  exact (Attach_err _ oa cap L rank w hcap hs hin hg hv).mono fun e w' ⟨⟨er,he,h1⟩,hb⟩ => ⟨⟨er,he,h1⟩,vs,pls,h.later hb,Frm.of hb,fun b hb => .inl hb⟩
end Go.Proofs.YtpdlmbbgioenoaaGreatDoor.W
namespace Go.Proofs.YtpdlmbbgioenoaaGreatDoor.W
open Go.RowKit Go.Proofs.YtpdlmbbgioenoaaGreatDoor.P
theorem outc_eq (S:Nat→Step) (n:Nat) (told cells:Nat→Int) (time:Int):outcome S n told cells time=outc S n told cells time:=rfl
theorem setCells_heap {g:Nat} {t:TypeId} {fz:Nat × Nat}:∀ (vs:List Value) (o:Nat) (w:World) (cur:Array Value),w.heap[g]?=some (.cells cur t fz)→o+vs.length≤cur.size →
  (w.setCells g o vs).heap[g]?=some (.cells (cur.toList.take o++vs++cur.toList.drop (o+vs.length)).toArray t fz)
 | [],o,w,cur,h,hl => by
  rw [World.setCells,h]
  simp
 | v :: vs,o,w,cur,h,hl => by
  rw [World.setCells]
  have hs:(w.setCell ⟨g,o,none⟩ v).heap[g]?=some (.cells (cur.setIfInBounds o v) t fz):=by simp [World.setCell,Array.getElem?_modify,h]
  rw [setCells_heap vs (o+1) _ _ hs (by simp at hl ⊢; omega)]
  have ho:o < cur.toList.length:=by simp at hl ⊢; omega
  congr 3
  rw [Array.toList_setIfInBounds]
  have e1:(cur.toList.set o v).take (o+1)=cur.toList.take o++[v]:=by
   rw [List.take_succ_eq_append_getElem (by simpa using ho),List.take_set_of_le (Nat.le_refl _),List.getElem_set_self]
  have e2:(cur.toList.set o v).drop (o+1+vs.length)=cur.toList.drop (o+(v :: vs).length):=by
   rw [List.drop_set_of_lt (by omega),List.length_cons]; congr 1; omega
  rw [e1,e2]
  simp
theorem rowsV_set {l:List (HP × Value)} {i:Nat} {x y:HP × Value} (h:l[i]?=some x):rowsV (l.set i y)=(rowsV l).take (i*19)++pcells y++(rowsV l).drop ((i+1)*19):=by
 have hi:i < l.length:=(List.getElem?_eq_some_iff.1 h).1
 unfold rowsV
 rw [fm_take pcells_len,fm_drop pcells_len,List.set_eq_take_append_cons_drop,if_pos hi,List.flatMap_append,List.flatMap_cons,List.append_assoc]
def tab16 (f:Nat→Int):List Value:=[.int .i64 (f 0),.int .i64 (f 1),.int .i64 (f 2),.int .i64 (f 3),.int .i64 (f 4),.int .i64 (f 5),.int .i64 (f 6),.int .i64 (f 7),.int .i64 (f 8),.int .i64 (f 9),.int .i64 (f 10),.int .i64 (f 11),.int .i64 (f 12),.int .i64 (f 13),.int .i64 (f 14),.int .i64 (f 15)]
theorem tab16_len (f:Nat→Int):(tab16 f).length=16:=rfl
theorem pcells_split (x:HP × Value):pcells x=[.int .i64 x.1.id,.int .i64 x.1.rank,x.2]++tab16 x.1.cells:=rfl
set_option maxHeartbeats 4000000 in
theorem row_table {w:World} {g n cap:Nat} {l:List (HP × Value)} (h:w.ownsRow 0 134 19 (.slice (some ⟨g,0,none⟩) n cap) n (rowsV l)) {i:Nat} {x:HP × Value} (hi:l[i]?=some x) (f:Nat→Int) :
  (w.setCells g (i*19+3) (tab16 f)).ownsRow 0 134 19 (.slice (some ⟨g,0,none⟩) n cap) n (rowsV (l.set i ({ x.1 with cells:=f },x.2))):=by
 have hil:i < l.length:=(List.getElem?_eq_some_iff.1 hi).1
 have hlen:=rowsV_length l
 have hn:l.length=n:=by have:=h.1; rw [rowsV_length] at this; omega
 have hpart:∃ cur:Array Value,w.heap[g]?=some (.cells cur 134 (0,0))∧n≤cap∧cap≤maxLen∧cur.size=cap*19∧cur.toList.take (n*19)=rowsV l:=by
  rcases h.2 with ⟨hv,_⟩ | ⟨g',cap',cur,hv,hb,hg,hc,hm,hs,hx⟩
  ·cases hv
  ·simp only [Value.slice.injEq,Option.some.injEq,Addr.mk.injEq,and_true,true_and] at hv
   obtain ⟨rfl,rfl⟩:=hv
   exact ⟨cur,hg,hc,hm,hs,hx⟩
 obtain ⟨cur,hg,hc,hm,hs,hx⟩:=hpart
 have hcl:cur.toList.length=cap*19:=by rw [Array.length_toList,hs]
 have hdec:rowsV l=(rowsV l).take (i*19)++(pcells x++(rowsV l).drop ((i+1)*19)):=by
  have e:=rowsV_set (y:=x) hi
  rw [List.append_assoc] at e
  have es:l.set i x=l:=by
   apply List.ext_getElem?
   intro j
   rw [List.getElem?_set]
   split
   ·rename_i h; subst h; rw [List.getElem?_eq_getElem hil] at hi ⊢; injection hi with hi; simp [hil,hi]
   ·rfl
  rwa [es] at e
 have hA:((rowsV l).take (i*19)).length=i*19:=by rw [List.length_take,hlen]; omega
 have ht3:(rowsV l).take (i*19+3)=(rowsV l).take (i*19)++[.int .i64 x.1.id,.int .i64 x.1.rank,x.2]:=by
  have aux:∀ (A C:List Value),A.length=i*19→(A++(pcells x++C)).take (i*19+3)=A++[.int .i64 x.1.id,.int .i64 x.1.rank,x.2]:=fun A C h => by
   rw [List.take_append,h,List.take_of_length_le (by rw [h]; omega),show i*19+3 - i*19=3 by omega]; rfl
  have:=aux _ ((rowsV l).drop ((i+1)*19)) hA
  rw [← hdec] at this
  exact this
 have key:rowsV (l.set i ({ x.1 with cells:=f },x.2))=(rowsV l).take (i*19+3)++tab16 f++(rowsV l).drop (i*19+3+16):=by
  rw [rowsV_set hi,ht3,pcells_split,List.append_assoc ((rowsV l).take (i*19)),show i*19+3+16=(i+1)*19 by omega]
  simp [List.append_assoc]
 have ha:i*19+3+(tab16 f).length≤cur.size:=by rw [tab16_len,hs]; omega
 refine ⟨by rw [rowsV_length,List.length_set,hn],.inr ⟨g,cap,_,rfl,Nat.zero_le _,setCells_heap _ _ _ _ hg ha,hc,hm,?_,?_⟩⟩
 ·rw [tab16_len]
  simp only [List.size_toArray,List.length_append,List.length_take,List.length_drop,hcl,tab16_len]
  omega
 ·rw [tab16_len,key]
  show List.take (n*19) (cur.toList.take (i*19+3)++tab16 f++cur.toList.drop (i*19+3+16))=_
  have h3:(rowsV l).take (i*19+3)=cur.toList.take (i*19+3):=by rw [← hx,List.take_take]; congr 1; omega
  have h4:(rowsV l).drop (i*19+3+16)=(cur.toList.drop (i*19+3+16)).take (n*19 - (i*19+3+16)):=by rw [← hx,List.drop_take]
  have hl1:(cur.toList.take (i*19+3)++tab16 f).length=i*19+3+16:=by rw [List.length_append,List.length_take,hcl,tab16_len]; omega
  rw [List.take_append,hl1,List.take_of_length_le (by rw [hl1]; omega),h3,h4]
theorem Frm.alloc {M:Nat→Prop} {w wr:World} (h:Frm M w wr) (o:Obj):Frm M w (wr.alloc o):=h.trans (Frm.of ((Below.refl _ _).alloc (Nat.le_refl _) _))
theorem hrun_nil (told:Nat→Int) (time:Int) (s:Sd):hrun told time [] s=([],s):=rfl
theorem runS {W:World} {b g a:Nat} {told:Nat→Int} {xp:HP} {xv:Value} (hT:P.Img W b 8 (fun j => ([.int .i64 (told 0),.int .i64 (told 1),.int .i64 (told 2),.int .i64 (told 3),.int .i64 (told 4),.int .i64 (told 5),.int .i64 (told 6),.int .i64 (told 7)]:List Value).getD j undef)) (hR:W.rangeAt g a (pcells (xp,xv))) :
  W.cell? ⟨b,0,none⟩=some (.int .i64 (told 0))∧W.cell? ⟨b,1,none⟩=some (.int .i64 (told 1))∧W.cell? ⟨b,2,none⟩=some (.int .i64 (told 2))∧W.cell? ⟨b,3,none⟩=some (.int .i64 (told 3))∧W.cell? ⟨b,4,none⟩=some (.int .i64 (told 4))∧W.cell? ⟨b,5,none⟩=some (.int .i64 (told 5))∧W.cell? ⟨b,6,none⟩=some (.int .i64 (told 6))∧W.cell? ⟨b,7,none⟩=some (.int .i64 (told 7)) ∧
  W.cell? ⟨g,a+2,none⟩=some xv∧W.cell? ⟨g,a+3,none⟩=some (.int .i64 (xp.cells 0))∧W.cell? ⟨g,a+3+1,none⟩=some (.int .i64 (xp.cells 1))∧W.cell? ⟨g,a+3+2,none⟩=some (.int .i64 (xp.cells 2))∧W.cell? ⟨g,a+3+3,none⟩=some (.int .i64 (xp.cells 3))∧W.cell? ⟨g,a+3+4,none⟩=some (.int .i64 (xp.cells 4))∧W.cell? ⟨g,a+3+5,none⟩=some (.int .i64 (xp.cells 5))∧W.cell? ⟨g,a+3+6,none⟩=some (.int .i64 (xp.cells 6))∧W.cell? ⟨g,a+3+7,none⟩=some (.int .i64 (xp.cells 7)) ∧
  W.cell? ⟨g,a+3+8,none⟩=some (.int .i64 (xp.cells 8))∧W.cell? ⟨g,a+3+9,none⟩=some (.int .i64 (xp.cells 9))∧W.cell? ⟨g,a+3+10,none⟩=some (.int .i64 (xp.cells 10))∧W.cell? ⟨g,a+3+11,none⟩=some (.int .i64 (xp.cells 11))∧W.cell? ⟨g,a+3+12,none⟩=some (.int .i64 (xp.cells 12))∧W.cell? ⟨g,a+3+13,none⟩=some (.int .i64 (xp.cells 13))∧W.cell? ⟨g,a+3+14,none⟩=some (.int .i64 (xp.cells 14))∧W.cell? ⟨g,a+3+15,none⟩=some (.int .i64 (xp.cells 15)) :=
 ⟨hT.cell 0 (by omega),hT.cell 1 (by omega),hT.cell 2 (by omega),hT.cell 3 (by omega),hT.cell 4 (by omega),hT.cell 5 (by omega),hT.cell 6 (by omega),hT.cell 7 (by omega),hR 2 _ rfl,hR 3 _ rfl,hR 4 _ rfl,hR 5 _ rfl,hR 6 _ rfl,hR 7 _ rfl,hR 8 _ rfl,hR 9 _ rfl,hR 10 _ rfl,hR 11 _ rfl,hR 12 _ rfl,hR 13 _ rfl,hR 14 _ rfl,hR 15 _ rfl,hR 16 _ rfl,hR 17 _ rfl,hR 18 _ rfl⟩
theorem code_prog {w:World} {xp:HP} {cog:Option Addr} {cn ccap:Nat} (h:CodeAt w (xp,.slice cog cn ccap)):cn=xp.code.length∧cn≤ccap∧ProgAt w cog (nth xp.code) cn:=by
 have hr:=h
 rcases h.2 with ⟨hv,h0⟩ | ⟨g,c,cur,hv,_,_,hc,_⟩
 ·injection hv with h1 h2 h3
  simp only at h0
  exact ⟨by omega,by omega,fun h => by omega⟩
 ·injection hv with h1 h2 h3
  simp only at h2 hc
  subst h1; subst h3
  refine ⟨h2,by omega,fun _ => ⟨_,rfl,?_⟩⟩
  rw [h2] at hr ⊢
  exact row_cells rfl hr
theorem range_later {W W':World} {B b o:Nat} {cs:List Value} (h:W.rangeAt b o cs) (hb:Below B W W') (hl:b < B):W'.rangeAt b o cs:=fun j v hv => (hb.cell (p:=⟨b,o+j,none⟩) hl).trans (h j v hv)
theorem hthere_new {w:World} {c:Array Value} {t:TypeId} {n:Nat} (h:c.size=n):(w.alloc (.cells c t (0,0))).there w.heap.size 0 n:=by
 subst h
 refine there_img (I:=fun j => c.getD j undef) (Img.of_cells (heap_alloc_new w _) rfl fun j hj => ?_)
 simp [hj]
theorem frm_setCells (g:Nat):∀ (vs:List Value) (o:Nat) (w:World),Frm (fun b => b=g) w (w.setCells g o vs)
 | [],_,w => Frm.refl _ w
 | v :: vs,o,w => (show Frm (fun b => b=g) w (w.setCell ⟨g,o,none⟩ v) from ⟨rfl,rfl,rfl,by simp,fun b _ hb => Below.heap_setCell _ _ _ _ hb⟩).trans (frm_setCells g vs (o+1) _)
theorem hthere_drew {w:World} {c:Array Value} {t:TypeId} {n:Nat} (h:c.size=n):(w.alloc (.cells c t (0,0))).drew.there w.heap.size 0 n:=fun j hj => hthere_new h j hj
theorem there_later {W W':World} {B b o n:Nat} (h:W.there b o n) (hb:Below B W W') (hl:b < B):W'.there b o n:=fun j hj => by
 obtain ⟨h1,h2⟩:=h j hj
 exact ⟨by rw [hb.cell (p:=⟨b,o+j,none⟩) hl]; exact h1,by rw [hb.frozen (p:=⟨b,o+j,none⟩) hl]; exact h2⟩
theorem himg_put {w:World} {b:Nat} {vs:List Value} (ht:w.there b 0 vs.length):P.Img (w.setCells b 0 vs) b vs.length (fun j => vs.getD j undef):=by
 intro j hj
 have h:=World.rangeAt_setCells_same w b 0 vs ht j (vs.getD j undef) (by simp [hj])
 rw [Nat.zero_add] at h
 refine ⟨h,?_⟩
 rw [World.frozen?_setCells]
 have:=(ht j hj).2
 rwa [Nat.zero_add] at this
theorem himg_apart {w:World} {b n g o:Nat} {I:Nat→Value} {vs:List Value} (h:P.Img w b n I) (hne:b ≠ g):P.Img (w.setCells g o vs) b n I:=by
 intro j hj
 refine ⟨?_,?_⟩
 ·rw [World.cell?_setCells_out g vs o w ⟨b,j,none⟩ (fun e => absurd e hne)]; exact h.cell j hj
 ·rw [World.frozen?_setCells]; exact h.free j hj
def ran19 (num:Int) (f:Nat→Int) (out:Value) (st:Int):List Value:=[.int .i64 num,.int .i64 (f 0),.int .i64 (f 1),.int .i64 (f 2),.int .i64 (f 3),.int .i64 (f 4),.int .i64 (f 5),.int .i64 (f 6),.int .i64 (f 7),.int .i64 (f 8),.int .i64 (f 9),.int .i64 (f 10),.int .i64 (f 11),.int .i64 (f 12),.int .i64 (f 13),.int .i64 (f 14),.int .i64 (f 15),out,.int .i64 st]
theorem ran19_one (num:Int) (f:Nat→Int) (og:Option Addr) (n c:Nat) (st:Int):∀ v ∈ ran19 num f (.slice og n c) st,v.oneCell'=true:=by
 intro v hv
 simp only [ran19,List.mem_cons,List.not_mem_nil,or_false] at hv
 rcases hv with rfl | rfl | rfl | rfl | rfl | rfl | rfl | rfl | rfl | rfl | rfl | rfl | rfl | rfl | rfl | rfl | rfl | rfl | rfl <;> rfl
theorem hstore_at {P:Program} {w:World} {b o:Nat} {vs:List Value} (ht:w.there b o vs.length) (h1:∀ v ∈ vs,v.oneCell'=true):(storeCells ⟨b,o,none⟩ vs 0).run P w=.ok () (w.setCells b o vs):=by
 have:=run_storeCells_cells (P:=P) b o vs 0 w (fun j hj => by simpa using (ht j hj).1) (fun j hj => by simpa using (ht j hj).2) h1
 simpa using this
theorem hstore {P:Program} {w:World} {b:Nat} {arr:Array Value} (ht:w.there b 0 arr.size) (h1:∀ v ∈ arr.toList,v.oneCell'=true):(storeCells ⟨b,0,none⟩ arr.toList 0).run P w=.ok () (w.setCells b 0 arr.toList):=by
 have:=run_storeCells_cells (P:=P) b 0 arr.toList 0 w (fun j hj => by simpa using (ht j (by simpa using hj)).1) (fun j hj => by simpa using (ht j (by simpa using hj)).2) h1
 simpa using this
theorem size_tab16 (f:Nat→Int):(Tryz.prog.info? 55).map (·.size)=some (tab16 f).length:=by kernel_rfl
theorem tab16_ones (f:Nat→Int):∀ v ∈ tab16 f,v.oneCell'=true:=by
 intro v hv
 simp only [tab16,List.mem_cons,List.not_mem_nil,or_false] at hv
 rcases hv with rfl | rfl | rfl | rfl | rfl | rfl | rfl | rfl | rfl | rfl | rfl | rfl | rfl | rfl | rfl | rfl <;> rfl
theorem ints_one (l:List Int):∀ v ∈ l.map (Value.int .i64),v.oneCell'=true:=by
 intro v hv
 obtain ⟨x,_,rfl⟩:=List.mem_map.1 hv
 rfl
theorem row_there {w:World} {g n cap:Nat} {l:List (HP × Value)} (h:w.ownsRow 0 134 19 (.slice (some ⟨g,0,none⟩) n cap) n (rowsV l)) {i:Nat} {x:HP × Value} (hi:l[i]?=some x):w.there g (i*19+3) 16:=by
 have hil:i < l.length:=(List.getElem?_eq_some_iff.1 hi).1
 have hn:l.length=n:=by have:=h.1; rw [rowsV_length] at this; omega
 have hpart:∃ cur:Array Value,w.heap[g]?=some (.cells cur 134 (0,0))∧n≤cap∧cur.size=cap*19:=by
  rcases h.2 with ⟨hv,_⟩ | ⟨g',cap',cur,hv,hb,hg,hc,hm,hs,hx⟩
  ·cases hv
  ·simp only [Value.slice.injEq,Option.some.injEq,Addr.mk.injEq,and_true,true_and] at hv
   obtain ⟨rfl,rfl⟩:=hv
   exact ⟨cur,hg,hc,hs⟩
 obtain ⟨cur,hg,hc,hs⟩:=hpart
 intro j hj
 refine ⟨?_,by simp [World.frozen?,hg]⟩
 rw [cell_of_row w g (i*19+3+j) cur 134 (0,0) hg,Array.getElem?_eq_getElem (by rw [hs]; omega)]
 rfl
theorem range_alloc {W:World} {b o:Nat} {cs:List Value} (h:W.rangeAt b o cs) {x:Obj}:(W.alloc x).rangeAt b o cs:=fun j v hv => by
 have:=h j v hv
 exact (World.cell?_of_block (w:=W) (a:=⟨b,o+j,none⟩) (Below.heap_alloc W x b (block_lt_of_cell this))).trans this
theorem outc_out {S:Nat→Step} {n:Nat} {told cells:Nat→Int} {time:Int} {M:Mach} {num st:Int} (h:outc S n told cells time=.inr (M,num,st)):M.out.length≤50:=by
 unfold outc at h
 split at h
 ·cases h
 split at h
 ·cases h
 ·exact run_out S told time n _ 0 1 (by simp [Mach.init]) h
theorem out_append (B:Nat) (v:Value) (n:Nat) (xs:List Value) (u:Value) (B0 m:Nat) (news:List Value) (w:World) (hB:B≤w.heap.size) (hown:w.ownsRow B 2 1 v n xs) (hu:w.ownsRow B0 2 1 u m news) (h1:∀ u ∈ news,u.oneCell'=true) (hs:n+m≤1000) :
  ∃ v' w',(Builtin.append_ #[85,85] 85 #[v,u]).run Tryz.prog w=.ok v' w'∧w'.ownsRow B 2 1 v' (n+m) (xs++news)∧w.grownBy w' v.ownBlock:=by
 obtain ⟨i0,hi0,hz0,hz1,hz2⟩:=info_parts infoI64
 rcases hu.2 with ⟨rfl,rfl⟩ | ⟨g,cap,cur,rfl,hbg,hg,hcap,hmax,hcs,hxs⟩
 ·have:news=[]:=List.eq_nil_of_length_eq_zero (by have:=hu.1; omega)
  subst this
  exact ⟨v,w,run_append_owned_none (P:=Tryz.prog) (w:=w) B _ _ _ i0 1 Tryz.underlying85 hi0 v n xs hown,by simpa using hown,⟨rfl,rfl,rfl,Nat.le_refl _,fun _ _ _ => rfl⟩⟩
 ·have hl:news.length=m*1:=hu.1
  obtain ⟨v',w',hr,h2,h3,_,_⟩:=run_append_own_at (P:=Tryz.prog) (w:=w) B 85 85 2 i0 _ 1 8 Tryz.underlying85 hi0 hz0 hz1 hz2 rfl (by decide) v n xs hown ⟨g,0,none⟩ m cap news hl (fun j x hj => by
   have ea:w.cell? (Addr.add ⟨g,0,none⟩ j)=w.cell? ⟨g,j,none⟩:=by
    simp [Addr.add]
    split <;> simp_all
   rw [ea,cell_of_row w g j cur 2 (0,0) hg]
   rw [← hxs,List.getElem?_take] at hj
   split at hj
   ·simpa using hj
   ·cases hj) h1 (by unfold maxLen; omega) (by omega) hB
  exact ⟨v',w',hr,h2,h3⟩
theorem hrun_ranks (told:Nat→Int) (time:Int):∀ (l:List HP) (s:Sd),(hrun told time l s).1.map (·.rank)=l.map (·.rank)
 | [],_ => rfl
 | p :: t,s => by
  rw [hrun]
  cases ho:outc (nth p.code) p.code.length told p.cells time with
  | inl e => simp [hrun_ranks told time t s]
  | inr r =>
   obtain ⟨M,num,st⟩:=r
   simp only
   split
   ·simp
   ·simp [hrun_ranks told time t _]
theorem sorted_ranks {l l':List HP} (h:l'.map (·.rank)=l.map (·.rank)) (hs:Sorted l):Sorted l':=by
 intro i j p q hij hp hq
 have ei:(l.map (·.rank))[i]?=some p.rank:=by rw [← h,List.getElem?_map,hp]; rfl
 have ej:(l.map (·.rank))[j]?=some q.rank:=by rw [← h,List.getElem?_map,hq]; rfl
 rw [List.getElem?_map] at ei ej
 cases h1:l[i]? with
 | none => rw [h1] at ei; cases ei
 | some x =>
  cases h2:l[j]? with
  | none => rw [h2] at ej; cases ej
  | some y =>
   rw [h1] at ei; rw [h2] at ej
   simp only [Option.map_some,Option.some.injEq] at ei ej
   rw [← ei,← ej]
   exact hs i j x y hij h1 h2
theorem results_cell1 {P:Program} {w:World} {fn:Func} {tmps:Array Value} {a:Nat} {ty:TypeId} (hr:fn.results=#[.cell a ty]) {p:Addr} (ha:tmps.getD a undef=.pointer (some p)) {v:Value}
  (hl:(loadVar ty p).run P w=.ok v w):(results fn tmps).run P w=.ok v w:=by
 rw [Array.getD_eq_getD_getElem?] at ha
 unfold results
 rw [hr]
 simp [asAddr,ha,hl,Sem.run_bind,Sem.run_pure]
theorem said_load {W:World} {b:Nat} {x y z:Int} {o:Value} (h:P.Img W b 4 (fun j => ([.int .i64 x,.int .i64 y,o,.int .i64 z]:List Value).getD j undef)):(loadVar 103 ⟨b,0,none⟩).run Tryz.prog W=.ok (.agg #[.int .i64 x,.int .i64 y,o,.int .i64 z]) W :=
 run_loadVar_mid W b 0 _ [.int .i64 x,.int .i64 y,o,.int .i64 z] _ (fun j v hv => by
  have hj:j < 4:=by have:=(List.getElem?_eq_some_iff.1 hv).1; simpa using this
  rw [Nat.zero_add,h.cell j hj,← hv]
  rcases j with _ | _ | _ | _ | j
  all_goals first | rfl | omega) Tryz.underlying103 rfl (by kernel_rfl)
theorem said_put {W:World} {b:Nat} {I:Nat→Value} (h:P.Img W b 4 I) (x y z:Int) (o:Value):P.Img ((((W.setCell ⟨b,0,none⟩ (.int .i64 x)).setCell ⟨b,1,none⟩ (.int .i64 y)).setCell ⟨b,2,none⟩ o).setCell ⟨b,3,none⟩ (.int .i64 z)) b 4 (fun j => ([.int .i64 x,.int .i64 y,o,.int .i64 z]:List Value).getD j undef) ∧
  Frm (fun k => k=b) W ((((W.setCell ⟨b,0,none⟩ (.int .i64 x)).setCell ⟨b,1,none⟩ (.int .i64 y)).setCell ⟨b,2,none⟩ o).setCell ⟨b,3,none⟩ (.int .i64 z)):=by
 refine ⟨((((h.set (j:=0) (by omega) _).set (j:=1) (by omega) _).set (j:=2) (by omega) _).set (j:=3) (by omega) _).congr fun j hj => ?_,frm_setCells b [.int .i64 x,.int .i64 y,o,.int .i64 z] 0 W⟩
 have hj':j=0 ∨ j=1 ∨ j=2 ∨ j=3:=by omega
 rcases hj' with rfl | rfl | rfl | rfl <;> rfl
structure RunInv (w w1:World) (c:HC) (told:Nat→Int) (time:Int) (n:Nat) (v:Value) (i:Nat) (pre:List HP) (s:Sd) (out:Value) (pl:List (HP × Value)) (wr:World):Prop where
 le:i≤n
 by_:s.by_=0
 num:s.num=0
 run:hrun told time c.l .zero=(pre++(hrun told time (c.l.drop i) s).1,(hrun told time (c.l.drop i) s).2)
 l:pl.map (·.1)=pre++c.l.drop i
 plen:pre.length=i
 row:wr.ownsRow 0 134 19 v n (rowsV pl)
 code:∀ x ∈ pl,CodeAt w x
 said:P.Img wr (w.heap.size+1+1) 4 (fun j => ([.int .i64 0,.int .i64 0,out,.int .i64 s.steps]:List Value).getD j undef)
 out:wr.ownsRow w1.heap.size 2 1 out s.out.length (s.out.map (Value.int .i64))
 few:s.out.length≤50*i
 steps:0≤s.steps∧s.steps≤200*i
 told:P.Img wr w.heap.size 8 (fun j => ([.int .i64 (told 0),.int .i64 (told 1),.int .i64 (told 2),.int .i64 (told 3),.int .i64 (told 4),.int .i64 (told 5),.int .i64 (told 6),.int .i64 (told 7)]:List Value).getD j undef)
 res:P.Img wr (w.heap.size+1) 4 (fun j => ([.int .i64 0,.int .i64 0,.slice none 0 0,.int .i64 0]:List Value).getD j undef)
 frm:Frm (fun b => v.ownBlock=some b) w wr
 later:w1.heap.size≤wr.heap.size
section
variable {w w1:World} {c:HC} {told:Nat→Int} {time:Int} {n:Nat} {v:Value} {i:Nat} {pre:List HP} {s:Sd} {out:Value} {pl:List (HP × Value)} {wr:World}
theorem RunInv.errT (h:RunInv w w1 c told time n v i pre s out pl wr) (hg:ErrT w) (hne:v.ownBlock ≠ some 4):ErrT wr:=h.frm.cell hg hne
theorem CodeAt.frm {x:HP × Value} {M:Nat→Prop} {W W':World} (h:CodeAt W x) (hf:Frm M W W') (hM:∀ k,Typed W k 81→¬ M k):CodeAt W' x:=Frm.row hf h fun k hk => hM k (typed_row h k hk)
theorem RunInv.codeW (h:RunInv w w1 c told time n v i pre s out pl wr) (hv:∀ k,v.ownBlock=some k→Typed w k 134):∀ x ∈ pl,CodeAt wr x:=fun x hx =>
 (h.code x hx).frm h.frm fun k hk e => (hk.ne (hv k e) (by decide)) rfl
theorem run_end (hc:ChainAt w c v pl) (hn:pl.length=n) {W:World} {pl':List (HP × Value)} (hl:pl'.map (·.1)=(hrun told time c.l .zero).1) (hrow:W.ownsRow 0 134 19 v n (rowsV pl')) (hcode:∀ x ∈ pl',CodeAt w x) (hf:Frm (fun b => v.ownBlock=some b) w W) :
  ChainAt W ⟨(hrun told time c.l .zero).1,c.next⟩ v pl':=by
 have hlen:pl'.length=n:=by have:=hrow.1; rw [rowsV_length] at this; omega
 refine ⟨hl,by rw [hlen]; exact hrow,fun x hx => (hcode x hx).frm hf fun k hk e => (hk.ne (typed_row hc.row k e) (by decide)) rfl,sorted_ranks (hrun_ranks told time c.l .zero) hc.sorted,by rw [hlen,← hn]; exact hc.short⟩
theorem run_fin (hc:ChainAt w c v pl) (hn:pl.length=n) (h1:w1.heap.size=w.heap.size+1+1+1) {W W':World} (PF:Frm (fun k => k=w.heap.size+1) W W') (hf:Frm (fun b => v.ownBlock=some b) w W) {pl':List (HP × Value)} {l':List HP} {s':Sd} {o:Value} (hR:hrun told time c.l .zero=(l',s')) (hl:pl'.map (·.1)=l')
  (hrow:W.ownsRow 0 134 19 v n (rowsV pl')) (hcode:∀ x ∈ pl',CodeAt w x) (hout:W.ownsRow w1.heap.size 2 1 o s'.out.length (s'.out.map (Value.int .i64))) :
  W'.ownsRow w.heap.size 2 1 o (hrun told time c.l .zero).2.out.length ((hrun told time c.l .zero).2.out.map (Value.int .i64))∧ChainAt W' ⟨(hrun told time c.l .zero).1,c.next⟩ v pl'∧Frm (fun b => v.ownBlock=some b) w W':=by
 have hfr:Frm (fun b => v.ownBlock=some b) w W':=((hf.mono (M':=fun b => v.ownBlock=some b ∨ b=w.heap.size+1) fun k _ e => .inl e).trans (PF.mono fun k _ e => .inr e)).mono fun k hk e => e.elim id fun e => by omega
 have hrow':=PF.row hrow fun k hk (e:k=w.heap.size+1) => by have:=(hc.row.lt k hk).2; omega
 have hout':=World.ownsRow.mono (base':=w.heap.size) (PF.row hout fun k hk (e:k=w.heap.size+1) => by have:=(hout.lt k hk).1; omega) (by omega)
 exact ⟨by rw [hR]; exact hout',run_end hc hn (by rw [hR]; exact hl) hrow' hcode hfr,hfr⟩
theorem RunInv.split (h:RunInv w w1 c told time n v i pre s out pl wr) {x:HP × Value} (hx:pl[i]?=some x):c.l.drop i=x.1 :: c.l.drop (i+1):=by
 have e:(pl.map (·.1))[i]?=some x.1:=by rw [List.getElem?_map,hx]; rfl
 rw [h.l,List.getElem?_append_right (by simp [h.plen]),h.plen,Nat.sub_self] at e
 rw [List.getElem?_drop,Nat.add_zero] at e
 obtain ⟨hi,he⟩:=List.getElem?_eq_some_iff.1 e
 rw [List.drop_eq_getElem_cons hi,he]
theorem RunInv.lset (h:RunInv w w1 c told time n v i pre s out pl wr) {x:HP × Value} (hx:pl[i]?=some x) (y:HP × Value):(pl.set i y).map (·.1)=pre++y.1 :: c.l.drop (i+1):=by
 rw [List.map_set,h.l,h.split hx,List.set_append_right _ _ (by simp [h.plen]),h.plen,Nat.sub_self]
 rfl
theorem RunInv.cset (h:RunInv w w1 c told time n v i pre s out pl wr) {xp:HP} {xv:Value} (hx:pl[i]?=some (xp,xv)) (f:Nat→Int):∀ x ∈ pl.set i ({ xp with cells:=f },xv),CodeAt w x:=fun x hm => by
 rcases List.mem_or_eq_of_mem_set hm with hm | rfl
 ·exact h.code x hm
 ·exact (h.code (xp,xv) (List.mem_of_getElem? hx):CodeAt w (xp,xv))
end
end Go.Proofs.YtpdlmbbgioenoaaGreatDoor.W
namespace Go.Proofs.YtpdlmbbgioenoaaGreatDoor.W
open Go.RowKit Go.Proofs.YtpdlmbbgioenoaaGreatDoor.P
theorem err_kind {w:World} {v:Value} {e p:Int} (h:ErrIs w v e p) (hne:e ≠ 0):v=.iface 30 (.int .i64 e) ∨ ∃ b:Nat,v=.iface 145 (.pointer (some ⟨b,0,none⟩)):=by
 rcases h with ⟨_,h0,_⟩ | ⟨_,hv,_⟩ | ⟨_,b,hv,_⟩
 ·exact absurd h0 hne
 ·exact .inl hv
 ·exact .inr ⟨b,hv⟩
set_option maxHeartbeats 16000000 in
theorem Chain_run {w:World} {c:HC} {v:Value} {pl:List (HP × Value)} (hc:ChainAt w c v pl) (D o:Nat) (c0:w.cell? ⟨D,o,none⟩=some v) (hD:v.ownBlock ≠ some D) (told:Nat→Int) (time:Int) (hg:ErrT w) (hge:v.ownBlock ≠ some 4) :
  Calls Tryz.prog 47 #[.pointer (some ⟨D,o,none⟩),.agg (t8 told).toArray,.int .i64 time] w fun e w' => ∃ out pl',e=.returned (.agg #[.int .i64 (hrun told time c.l .zero).2.by_,.int .i64 (hrun told time c.l .zero).2.num,out,.int .i64 (hrun told time c.l .zero).2.steps]) ∧
   w'.ownsRow w.heap.size 2 1 out (hrun told time c.l .zero).2.out.length ((hrun told time c.l .zero).2.out.map (Value.int .i64))∧ChainAt w' ⟨(hrun told time c.l .zero).1,c.next⟩ v pl'∧Frm (fun b => v.ownBlock=some b) w w':=by
 obtain ⟨og,cap,hv⟩:=chain_form hc
 subst hv
 generalize hn:pl.length=n at c0 hD hc ⊢
 have hDl:D < w.heap.size:=block_lt_of_cell c0
 unfold t8
 have HCH:=Lib.hid hc
 have HG:=Lib.hid hg
 have HN:=Lib.hid hn
 clear hc hg hn
 go_enter Tryz.func47,Tryz.ntmps47
 go_upto_region 2 with fail
 generalize hW:World.alloc (World.alloc (World.alloc w _) _) _=w1
 have hb1:Below w.heap.size w w1:=hW ▸ ((((Below.refl w.heap.size w).alloc (Nat.le_refl _) _).alloc (by simp) _).alloc (by simp; omega) _)
 have hs1:w1.heap.size=w.heap.size+1+1+1:=by rw [← hW]; simp
 have IT:P.Img w1 w.heap.size 8 (fun j => ([.int .i64 (told 0),.int .i64 (told 1),.int .i64 (told 2),.int .i64 (told 3),.int .i64 (told 4),.int .i64 (told 5),.int .i64 (told 6),.int .i64 (told 7)]:List Value).getD j undef):=hW ▸ Img.alloc (Img.alloc (Img.mk' (heap_alloc_new w _) (by kernel_rfl)) _) _
 have IR:P.Img w1 (w.heap.size+1) 4 (fun j => ([.int .i64 0,.int .i64 0,.slice none 0 0,.int .i64 0]:List Value).getD j undef):=hW ▸ Img.alloc (Img.mk' (by simpa using heap_alloc_new (World.alloc w _) _) (by kernel_rfl)) _
 have IS:P.Img w1 (w.heap.size+1+1) 4 (fun j => ([.int .i64 0,.int .i64 0,.slice none 0 0,.int .i64 0]:List Value).getD j undef):=hW ▸ Img.mk' (by simpa using heap_alloc_new (World.alloc (World.alloc w _) _) _) (by kernel_rfl)
 have HC0:=Lib.hid c0
 have c01:=(hb1.cell (p:=⟨D,o,none⟩) hDl).trans c0
 have HF1:=Lib.hid (Frm.of hb1 (M:=fun b => (Value.slice og n cap).ownBlock=some b))
 have hrow1:=row_later HCH.out.row hb1
 rw [HN.out] at hrow1
 have HINV:=Lib.hid (show RunInv w w1 c told time n (.slice og n cap) 0 [] .zero (.slice none 0 0) pl w1 from
  ⟨Nat.zero_le _,rfl,rfl,by simp,by simpa using HCH.out.l,rfl,hrow1,HCH.out.code,IS,World.ownsRow_nil _ _ _ _,Nat.le_refl _,by unfold Sd.zero; simp,IT,IR,HF1.out,Nat.le_refl _⟩)
 clear hW IT IR IS c0 hb1 hrow1
 go_wp2_with fail
 go_loopw [17] (fun y wr => ∃ (i:Nat) (pre:List HP) (s:Sd) (out:Value) (pl':List (HP × Value)),y=.int .i64 i∧RunInv w w1 c told time n (.slice og n cap) i pre s out pl' wr) (fun y _ => n - (intOf y).toNat)
 case atStart => exact ⟨0,[],.zero,_,_,rfl,HINV.out⟩
 case round =>
  obtain ⟨i,pre,s,out,pl',rfl,hI⟩:=hrel
  have HI:=Lib.hid hI
  have hin:=hI.le
  clear hI
  by_cases h:i < n
  ·have hk1:(i:Int) < n:=by omega
   have hpl:pl'.length=n:=by have:=HI.out.row.1; rw [rowsV_length] at this; omega
   obtain ⟨x,hx⟩:∃ x,pl'[i]?=some x:=⟨_,List.getElem?_eq_getElem (by omega)⟩
   obtain ⟨g,rfl⟩:∃ g,og=some ⟨g,0,none⟩:=by
    rcases HI.out.row.2 with ⟨h0,h1⟩ | ⟨g,cap',cur,h0,_⟩
    ·omega
    ·injection h0 with h0; exact ⟨g,h0⟩
   have hr:=row_range HI.out.row hx
   obtain ⟨xp,xv⟩:=x
   obtain ⟨cog,cn,ccap,hxv⟩:=code_form (HI.out.codeW (typed_row HCH.out.row) _ (List.mem_of_getElem? hx))
   simp only at hxv
   subst hxv
   have q2:wr.cell? ⟨g,i*19+2,none⟩=some (.slice cog cn ccap):=hr 2 _ rfl
   have hDr:wr.cell? ⟨D,o,none⟩=some (.slice (some ⟨g,0,none⟩) n cap):=HI.out.frm.cell HC0.out hD
   go_upto_region 6 with fail
   obtain ⟨rfl,hcc,hprog⟩:=code_prog (HI.out.codeW (typed_row HCH.out.row) _ (List.mem_of_getElem? hx))
   have hwr:w.heap.size+3≤wr.heap.size:=by have:=HI.out.later; omega
   have zT:w.heap.size < wr.heap.size:=by omega
   have zg:g < wr.heap.size:=(HI.out.row.lt g rfl).2
   have n3:¬ w.heap.size=wr.heap.size:=by omega
   have n4:¬ g=wr.heap.size:=by omega
   have RUN:=fun W (hb:Below wr.heap.size wr W) => Run_full cog xp.code.length ccap (nth xp.code) hcc told xp.cells time W (hprog.later hb) ((HI.out.errT HG.out hge).later hb)
   rw [outc_eq] at RUN
   obtain ⟨R,hR⟩:∃ R,outc (nth xp.code) xp.code.length told xp.cells time=R:=⟨_,rfl⟩
   rw [hR] at RUN
   unfold words8 words16 at RUN
   rcases R with ⟨er,ep⟩ | ⟨M,num,st⟩
   ·have HRUN:=Lib.hid RUN
    have HRR:=Lib.hid hR
    clear RUN hR
    go_upto_region 6 with fail
    go_cut [10,11] (fun y e W => (∃ m:Nat,y=.pointer (some ⟨m,0,none⟩)∧wr.heap.size≤m)∧(e=.iface 30 (.int .i64 er) ∨ ∃ b:Nat,e=.iface 145 (.pointer (some ⟨b,0,none⟩)))∧Below wr.heap.size wr W)
    case first =>
     go_region_held3 (fun W => W.cell? ⟨w.heap.size,0,none⟩=some (.int .i64 (told 0))∧W.cell? ⟨w.heap.size,1,none⟩=some (.int .i64 (told 1))∧W.cell? ⟨w.heap.size,2,none⟩=some (.int .i64 (told 2))∧W.cell? ⟨w.heap.size,3,none⟩=some (.int .i64 (told 3))∧W.cell? ⟨w.heap.size,4,none⟩=some (.int .i64 (told 4))∧W.cell? ⟨w.heap.size,5,none⟩=some (.int .i64 (told 5))∧W.cell? ⟨w.heap.size,6,none⟩=some (.int .i64 (told 6))∧W.cell? ⟨w.heap.size,7,none⟩=some (.int .i64 (told 7)) ∧
      W.cell? ⟨g,i*19+2,none⟩=some (.slice cog xp.code.length ccap)∧W.cell? ⟨g,i*19+3,none⟩=some (.int .i64 (xp.cells 0))∧W.cell? ⟨g,i*19+3+1,none⟩=some (.int .i64 (xp.cells 1))∧W.cell? ⟨g,i*19+3+2,none⟩=some (.int .i64 (xp.cells 2))∧W.cell? ⟨g,i*19+3+3,none⟩=some (.int .i64 (xp.cells 3))∧W.cell? ⟨g,i*19+3+4,none⟩=some (.int .i64 (xp.cells 4))∧W.cell? ⟨g,i*19+3+5,none⟩=some (.int .i64 (xp.cells 5))∧W.cell? ⟨g,i*19+3+6,none⟩=some (.int .i64 (xp.cells 6))∧W.cell? ⟨g,i*19+3+7,none⟩=some (.int .i64 (xp.cells 7)) ∧
      W.cell? ⟨g,i*19+3+8,none⟩=some (.int .i64 (xp.cells 8))∧W.cell? ⟨g,i*19+3+9,none⟩=some (.int .i64 (xp.cells 9))∧W.cell? ⟨g,i*19+3+10,none⟩=some (.int .i64 (xp.cells 10))∧W.cell? ⟨g,i*19+3+11,none⟩=some (.int .i64 (xp.cells 11))∧W.cell? ⟨g,i*19+3+12,none⟩=some (.int .i64 (xp.cells 12))∧W.cell? ⟨g,i*19+3+13,none⟩=some (.int .i64 (xp.cells 13))∧W.cell? ⟨g,i*19+3+14,none⟩=some (.int .i64 (xp.cells 14))∧W.cell? ⟨g,i*19+3+15,none⟩=some (.int .i64 (xp.cells 15)))
      (first | exact runS HI.out.told hr | exact runS (HI.out.told.alloc _) (range_alloc hr) | exact runS HT5.out HR5.out | exact runS (HT5.out.alloc _) (range_alloc HR5.out) | exact runS (himg_apart (HT5.out.alloc _) n1) (World.rangeAt_setCells_apart (range_alloc HR5.out) _ _ _ (.inl n2)) | exact runS (himg_apart HT5.out n3) (World.rangeAt_setCells_apart HR5.out _ _ _ (.inl n4)))
      (first
       | (go_at_call 31; refine (HRUN.out _ ?_).mono ?_; (repeat' (first | with_reducible exact Below.refl _ _ | with_reducible refine Below.drew ?_ | with_reducible refine Below.alloc ?_ ?_ _ | (simp; done) | omega)); rintro e w5 ⟨⟨v5,er5,rfl,hR5⟩,hb5⟩; obtain ⟨hv5,her5,hne5⟩:=hR5; have HE5:=Lib.hid (err_kind her5 hne5); clear her5 hne5; obtain ⟨arr,rfl,harr⟩:∃ arr:Array Value,v5=.agg arr∧arr.toList=ran19 0 (fun _ => 0) (.slice none 0 0) 0:=⟨_,hv5,rfl⟩; have HARR:=Lib.hid harr; have hsz:arr.size=19:=(by rw [← Array.length_toList,harr]; rfl); have hone:∀ v ∈ arr.toList,v.oneCell'=true:=(by rw [harr]; exact ran19_one _ _ _ _ _ _); have hstA:=hstore (P:=Tryz.prog) (w:=w5.alloc (.cells #[.int .i64 0,.int .i64 0,.int .i64 0,.int .i64 0,.int .i64 0,.int .i64 0,.int .i64 0,.int .i64 0,.int .i64 0,.int .i64 0,.int .i64 0,.int .i64 0,.int .i64 0,.int .i64 0,.int .i64 0,.int .i64 0,.int .i64 0,.slice none 0 0,.int .i64 0] 87)) (b:=w5.heap.size) (arr:=arr) (by rw [hsz]; exact hthere_new rfl) hone; clear harr hv5; (have hb:Below wr.heap.size wr w5:=Below.trans (by repeat' (first | with_reducible exact Below.refl _ _ | with_reducible refine Below.drew ?_ | with_reducible refine Below.alloc ?_ ?_ _ | (simp; done) | omega)) (hb5.mono (by first | exact Nat.le_refl _ | (simp; done) | (simp; omega)))); have HB5:=Lib.hid hb; have HT5:=Lib.hid (HI.out.told.later hb zT); have HR5:=Lib.hid (range_later hr hb zg); (try have HTH:=Lib.hid (there_later (hthere_drew (w:=wr) (t:=87) (c:=#[.int .i64 0,.int .i64 0,.int .i64 0,.int .i64 0,.int .i64 0,.int .i64 0,.int .i64 0,.int .i64 0,.int .i64 0,.int .i64 0,.int .i64 0,.int .i64 0,.int .i64 0,.int .i64 0,.int .i64 0,.int .i64 0,.int .i64 0,.slice none 0 0,.int .i64 0]) (n:=19) rfl) hb5 (by simp)); have hstB:=hstore (P:=Tryz.prog) (w:=w5) (b:=wr.heap.size) (arr:=arr) (by rw [hsz]; exact HTH.out) hone; have HTY:=Lib.hid (show Typed w5 wr.heap.size 87 from ⟨_,(hb5.block wr.heap.size (by simp)).trans (heap_alloc_new wr _)⟩)); have n1:¬ w.heap.size=w5.heap.size:=(by have:=HB5.out.size; omega); have n2:¬ g=w5.heap.size:=(by have:=HB5.out.size; omega); clear hb5 hb))
     ·go_wp2_with fail
      go_meet
      go_light
      refine ⟨⟨w5.heap.size,rfl,HB5.out.size⟩,HE5.out,?_⟩
      exact (HB5.out.alloc HB5.out.size _).trans ((frm_setCells w5.heap.size arr.toList 0 _).below (by have:=HB5.out.size; simp; omega) (fun k e => by have:=HB5.out.size; omega))
     ·go_wp2_with fail
      go_meet
      go_light
      refine ⟨⟨wr.heap.size,rfl,Nat.le_refl _⟩,HE5.out,?_⟩
      exact (HB5.out.trans (((frm_setCells wr.heap.size arr.toList 0 w5).below (by have:=HB5.out.size; omega) (fun k e => by omega)).mono (Nat.le_refl _)))
    case rest =>
     obtain ⟨⟨m,rfl,hm⟩,herr,hbM⟩:=hcut
     obtain ⟨wx,hwx⟩:∃ x,x=wc:=⟨_,rfl⟩; subst hwx
     have hRn:=HI.out.run
     rw [HI.out.split hx] at hRn
     simp only [hrun] at hRn
     rw [HRR.out] at hRn
     have hl0:=HI.out.l
     rw [HI.out.split hx] at hl0
     have hst:=HI.out.steps
     have hfw:=HI.out.few
     have hlt:=HI.out.later
     have hzx:=hbM.size
     have HN1:=Lib.hid (show RunInv w w1 c told time n (.slice (some ⟨g,0,none⟩) n cap) (i+1) (pre++[xp]) s out pl' wx from
      ⟨by omega,HI.out.by_,HI.out.num,by simpa [List.append_assoc] using hRn,by simpa [List.append_assoc] using hl0,by simp [HI.out.plen],row_later HI.out.row hbM,HI.out.code,HI.out.said.later hbM (by omega),row_later HI.out.out hbM,by omega,⟨hst.1,by omega⟩,
       HI.out.told.later hbM (by omega),HI.out.res.later hbM (by omega),HI.out.frm.trans (Frm.of hbM),by omega⟩)
     clear hRn hl0 hbM
     have hs8:n≤8:=by have:=HCH.out.short; have:=HN.out; omega
     rcases herr with rfl | ⟨eb,rfl⟩
     ·go_wp2_with fail
      refine ⟨⟨i+1,_,_,_,_,by simp,HN1.out⟩,?_⟩
      show n - ((i:Int)+1).toNat < n - ((i:Int)).toNat
      omega
     ·go_wp2_with fail
      refine ⟨⟨i+1,_,_,_,_,by simp,HN1.out⟩,?_⟩
      show n - ((i:Int)+1).toNat < n - ((i:Int)).toNat
      omega
   ·have HRUN:=Lib.hid RUN
    have HRR:=Lib.hid hR
    clear RUN hR
    go_upto_region 6 with fail
    go_cut [10,11] (fun y e W => ∃ (m:Nat) (og5:Option Addr) (cap5:Nat),y=.pointer (some ⟨m,0,none⟩)∧e=.nilIface∧wr.heap.size≤m∧P.Img W m 19 (fun j => (ran19 num M.cells (.slice og5 M.out.length cap5) st).getD j undef)∧Below wr.heap.size wr W∧∃ B,W.ownsRow B 2 1 (.slice og5 M.out.length cap5) M.out.length (M.out.map (Value.int .i64)))
    case first =>
     go_region_held3 (fun W => W.cell? ⟨w.heap.size,0,none⟩=some (.int .i64 (told 0))∧W.cell? ⟨w.heap.size,1,none⟩=some (.int .i64 (told 1))∧W.cell? ⟨w.heap.size,2,none⟩=some (.int .i64 (told 2))∧W.cell? ⟨w.heap.size,3,none⟩=some (.int .i64 (told 3))∧W.cell? ⟨w.heap.size,4,none⟩=some (.int .i64 (told 4))∧W.cell? ⟨w.heap.size,5,none⟩=some (.int .i64 (told 5))∧W.cell? ⟨w.heap.size,6,none⟩=some (.int .i64 (told 6))∧W.cell? ⟨w.heap.size,7,none⟩=some (.int .i64 (told 7)) ∧
      W.cell? ⟨g,i*19+2,none⟩=some (.slice cog xp.code.length ccap)∧W.cell? ⟨g,i*19+3,none⟩=some (.int .i64 (xp.cells 0))∧W.cell? ⟨g,i*19+3+1,none⟩=some (.int .i64 (xp.cells 1))∧W.cell? ⟨g,i*19+3+2,none⟩=some (.int .i64 (xp.cells 2))∧W.cell? ⟨g,i*19+3+3,none⟩=some (.int .i64 (xp.cells 3))∧W.cell? ⟨g,i*19+3+4,none⟩=some (.int .i64 (xp.cells 4))∧W.cell? ⟨g,i*19+3+5,none⟩=some (.int .i64 (xp.cells 5))∧W.cell? ⟨g,i*19+3+6,none⟩=some (.int .i64 (xp.cells 6))∧W.cell? ⟨g,i*19+3+7,none⟩=some (.int .i64 (xp.cells 7)) ∧
      W.cell? ⟨g,i*19+3+8,none⟩=some (.int .i64 (xp.cells 8))∧W.cell? ⟨g,i*19+3+9,none⟩=some (.int .i64 (xp.cells 9))∧W.cell? ⟨g,i*19+3+10,none⟩=some (.int .i64 (xp.cells 10))∧W.cell? ⟨g,i*19+3+11,none⟩=some (.int .i64 (xp.cells 11))∧W.cell? ⟨g,i*19+3+12,none⟩=some (.int .i64 (xp.cells 12))∧W.cell? ⟨g,i*19+3+13,none⟩=some (.int .i64 (xp.cells 13))∧W.cell? ⟨g,i*19+3+14,none⟩=some (.int .i64 (xp.cells 14))∧W.cell? ⟨g,i*19+3+15,none⟩=some (.int .i64 (xp.cells 15)))
      (first | exact runS HI.out.told hr | exact runS (HI.out.told.alloc _) (range_alloc hr) | exact runS HT5.out HR5.out | exact runS (HT5.out.alloc _) (range_alloc HR5.out) | exact runS (himg_apart (HT5.out.alloc _) n1) (World.rangeAt_setCells_apart (range_alloc HR5.out) _ _ _ (.inl n2)) | exact runS (himg_apart HT5.out n3) (World.rangeAt_setCells_apart HR5.out _ _ _ (.inl n4)))
      (first
       | (go_at_call 31; refine (HRUN.out _ ?_).mono ?_; (repeat' (first | with_reducible exact Below.refl _ _ | with_reducible refine Below.drew ?_ | with_reducible refine Below.alloc ?_ ?_ _ | (simp; done) | omega)); rintro e w5 ⟨⟨v5,er5,rfl,hR5⟩,hb5⟩; obtain ⟨ro,hv5,rfl,B0,hrow5⟩:=hR5; obtain ⟨og5,cap5,rfl⟩:=own_form hrow5; obtain ⟨arr,rfl,harr⟩:∃ arr:Array Value,v5=.agg arr∧arr.toList=ran19 num M.cells (.slice og5 M.out.length cap5) st:=⟨_,hv5,rfl⟩; have HARR:=Lib.hid harr; have hsz:arr.size=19:=(by rw [← Array.length_toList,harr]; rfl); have hone:∀ v ∈ arr.toList,v.oneCell'=true:=(by rw [harr]; exact ran19_one _ _ _ _ _ _); have hstA:=hstore (P:=Tryz.prog) (w:=w5.alloc (.cells #[.int .i64 0,.int .i64 0,.int .i64 0,.int .i64 0,.int .i64 0,.int .i64 0,.int .i64 0,.int .i64 0,.int .i64 0,.int .i64 0,.int .i64 0,.int .i64 0,.int .i64 0,.int .i64 0,.int .i64 0,.int .i64 0,.int .i64 0,.slice none 0 0,.int .i64 0] 87)) (b:=w5.heap.size) (arr:=arr) (by rw [hsz]; exact hthere_new rfl) hone; clear harr hv5; (have hb:Below wr.heap.size wr w5:=Below.trans (by repeat' (first | with_reducible exact Below.refl _ _ | with_reducible refine Below.drew ?_ | with_reducible refine Below.alloc ?_ ?_ _ | (simp; done) | omega)) (hb5.mono (by first | exact Nat.le_refl _ | (simp; done) | (simp; omega)))); have HB5:=Lib.hid hb; have HT5:=Lib.hid (HI.out.told.later hb zT); have HR5:=Lib.hid (range_later hr hb zg); have HROW5:=Lib.hid hrow5; (try have HTH:=Lib.hid (there_later (hthere_drew (w:=wr) (t:=87) (c:=#[.int .i64 0,.int .i64 0,.int .i64 0,.int .i64 0,.int .i64 0,.int .i64 0,.int .i64 0,.int .i64 0,.int .i64 0,.int .i64 0,.int .i64 0,.int .i64 0,.int .i64 0,.int .i64 0,.int .i64 0,.int .i64 0,.int .i64 0,.slice none 0 0,.int .i64 0]) (n:=19) rfl) hb5 (by simp)); have hstB:=hstore (P:=Tryz.prog) (w:=w5) (b:=wr.heap.size) (arr:=arr) (by rw [hsz]; exact HTH.out) hone; have HTY:=Lib.hid (show Typed w5 wr.heap.size 87 from ⟨_,(hb5.block wr.heap.size (by simp)).trans (heap_alloc_new wr _)⟩)); have n1:¬ w.heap.size=w5.heap.size:=(by have:=HB5.out.size; omega); have n2:¬ g=w5.heap.size:=(by have:=HB5.out.size; omega); clear hb5 hb hrow5))
     ·go_wp2_with fail
      go_meet
      go_light
      refine ⟨w5.heap.size,og5,cap5,rfl,rfl,HB5.out.size,?_,?_,B0,?_⟩
      ·have:=himg_put (w:=w5.alloc (.cells #[.int .i64 0,.int .i64 0,.int .i64 0,.int .i64 0,.int .i64 0,.int .i64 0,.int .i64 0,.int .i64 0,.int .i64 0,.int .i64 0,.int .i64 0,.int .i64 0,.int .i64 0,.int .i64 0,.int .i64 0,.int .i64 0,.int .i64 0,.slice none 0 0,.int .i64 0] 87)) (b:=w5.heap.size) (vs:=arr.toList) (by rw [HARR.out]; exact hthere_new rfl)
       rw [HARR.out] at this ⊢
       exact this
      ·exact (HB5.out.alloc HB5.out.size _).trans ((frm_setCells w5.heap.size arr.toList 0 _).below (by have:=HB5.out.size; simp; omega) (fun k e => by have:=HB5.out.size; omega))
      ·exact (frm_setCells w5.heap.size arr.toList 0 _).row (HROW5.out.alloc _) fun b hb e => by have:=(HROW5.out.lt b hb).2; omega
     ·go_wp2_with fail
      go_meet
      go_light
      refine ⟨wr.heap.size,og5,cap5,rfl,rfl,Nat.le_refl _,?_,?_,B0,?_⟩
      ·have:=himg_put (w:=w5) (b:=wr.heap.size) (vs:=arr.toList) (by rw [HARR.out]; exact HTH.out)
       rw [HARR.out] at this ⊢
       exact this
      ·exact (HB5.out.trans (((frm_setCells wr.heap.size arr.toList 0 w5).below (by have:=HB5.out.size; omega) (fun k e => by omega)).mono (Nat.le_refl _)))
      ·exact (frm_setCells wr.heap.size arr.toList 0 w5).row HROW5.out fun b hb e => ((typed_row HROW5.out b hb).ne HTY.out (by decide)) e
    case rest =>
     obtain ⟨m,og5,cap5,rfl,rfl,hm,IM,hbM,B0,hrow5⟩:=hcut
     obtain ⟨wx,hwx⟩:∃ x,x=wc:=⟨_,rfl⟩; subst hwx
     have m0:wx.cell? ⟨m,0,none⟩=some (.int .i64 num):=IM.cell 0 (by omega)
     have m17:wx.cell? ⟨m,17,none⟩=some (.slice og5 M.out.length cap5):=IM.cell 17 (by omega)
     have m18:wx.cell? ⟨m,18,none⟩=some (.int .i64 st):=IM.cell 18 (by omega)
     have hrg:wx.rangeAt m 1 (tab16 M.cells):=fun j v hv => by
      have hj:j < 16:=by have:=(List.getElem?_eq_some_iff.1 hv).1; rwa [tab16_len] at this
      have:=IM.cell (1+j) (by omega)
      rw [this,← hv]
      have hj':j=0 ∨ j=1 ∨ j=2 ∨ j=3 ∨ j=4 ∨ j=5 ∨ j=6 ∨ j=7 ∨ j=8 ∨ j=9 ∨ j=10 ∨ j=11 ∨ j=12 ∨ j=13 ∨ j=14 ∨ j=15:=by omega
      rcases hj' with rfl | rfl | rfl | rfl | rfl | rfl | rfl | rfl | rfl | rfl | rfl | rfl | rfl | rfl | rfl | rfl <;> rfl
     have hzx:=hbM.size
     have zgx:g < wx.heap.size:=by omega
     have HRG:=Lib.hid hrg
     have HROWx:=Lib.hid (row_later HI.out.row hbM)
     have HTHx:=Lib.hid (row_there HROWx.out hx)
     have HBM:=Lib.hid hbM
     have HIM:=Lib.hid IM
     have HR5:=Lib.hid hrow5
     have hstC:=hstore_at (P:=Tryz.prog) (w:=wx) (b:=g) (o:=i*19+3) (vs:=tab16 M.cells) HTHx.out (tab16_ones _)
     clear hrg hbM IM hrow5
     go_upto_region 9 with (first
      | (with_reducible refine wpList_load_row (by simp [go_sem]; done) 55 (.tmp 43) rfl m 1 (by simp [go_sem]; done) (tab16 M.cells) _ HRG.out Tryz.underlying55 rfl (size_tab16 _) ?_))
     clear hstC
     have zg0:g < w.heap.size:=(HCH.out.row.lt g rfl).2
     have hs8:n≤8:=by have:=HCH.out.short; have:=HN.out; omega
     have HROWy:=Lib.hid (row_table HROWx.out hx M.cells)
     have HSAy:=Lib.hid (himg_apart (g:=g) (o:=i*19+3) (vs:=tab16 M.cells) (HI.out.said.later HBM.out (by omega)) (by omega))
     have HIMy:=Lib.hid (himg_apart (g:=g) (o:=i*19+3) (vs:=tab16 M.cells) HIM.out (by omega))
     have HOUTx:=Lib.hid (row_later HI.out.out HBM.out)
     have HOUTy:=Lib.hid ((frm_setCells g (tab16 M.cells) (i*19+3) wx).row HOUTx.out fun b hb e => by have:=(HOUTx.out.lt b hb).1; omega)
     have HR5y:=Lib.hid ((frm_setCells g (tab16 M.cells) (i*19+3) wx).row HR5.out fun b hb e => ((typed_row HR5.out b hb).ne (typed_row HROWx.out g rfl) (by decide)) e)
     have HFy:=Lib.hid (show Frm (fun b => b=g ∨ b=w.heap.size+1+1 ∨ out.ownBlock=some b) wr (wx.setCells g (i*19+3) (tab16 M.cells)) from (Frm.of HBM.out).trans ((frm_setCells g (tab16 M.cells) (i*19+3) wx).mono fun k _ e => .inl e))
     generalize wx.setCells g (i*19+3) (tab16 M.cells)=wy at HROWy HSAy HIMy HOUTy HR5y HFy ⊢
     have hst:=outc_steps HRR.out
     have hfew:=outc_out HRR.out
     have hf2:=HI.out.few
     have hs2:=HI.out.steps
     have hzy:=HFy.out.size
     have hlat:=HI.out.later
     obtain ⟨v9,w9,hap,hrow9,hgr9⟩:=out_append w1.heap.size out s.out.length _ _ B0 M.out.length _ wy (by omega) HOUTy.out HR5y.out (ints_one _) (by omega)
     obtain ⟨og9,cap9,rfl⟩:=own_form hrow9
     have hsn:¬ out.ownBlock=some (w.heap.size+1+1):=fun e => by have:=(HOUTy.out.lt _ e).1; omega
     have y2:wy.cell? ⟨w.heap.size+1+1,2,none⟩=some out:=HSAy.out.cell 2 (by omega)
     have ym:wy.cell? ⟨m,17,none⟩=some (.slice og5 M.out.length cap5):=HIMy.out.cell 17 (by omega)
     have hmn:¬ out.ownBlock=some m:=fun e => by have:=(typed_row HOUTy.out m e); have:=(HI.out.out.lt m e).2; omega
     have HF9:=Lib.hid (Frm.grown hgr9 (M:=fun b => out.ownBlock=some b) fun k e => e)
     have IS9:=HF9.out.img HSAy.out (by omega) hsn
     have IM9:=HF9.out.img HIMy.out (by omega) hmn
     have z2:=IS9.cell 2 (by omega)
     have f2:=IS9.free 2 (by omega)
     have z3:=IS9.cell 3 (by omega)
     have f3:=IS9.free 3 (by omega)
     have m0':w9.cell? ⟨m,0,none⟩=some (.int .i64 num):=IM9.cell 0 (by omega)
     have m18':w9.cell? ⟨m,18,none⟩=some (.int .i64 st):=IM9.cell 18 (by omega)
     have hmS:¬ m=w.heap.size+1+1:=by omega
     go_upto_region 10 with (at_builtin; refine wpList_append_by _ rfl _ _ 85 85 rfl _ _ rfl rfl hap ?_)
     clear hap
     have hw1:-9223372036854775808≤s.steps+st:=by omega
     have hw2:s.steps+st≤9223372036854775807:=by omega
     go_upto_region 11 with fail
     have hF3:=HFy.out.trans (HF9.out.mono (M':=fun b => b=g ∨ b=w.heap.size+1+1 ∨ out.ownBlock=some b) fun k _ e => .inr (.inr e))
     have hFs:Frm (fun b => b=w.heap.size+1+1) w9 ((w9.setCell ⟨w.heap.size+1+1,2,none⟩ (.slice og9 (s.out.length+M.out.length) cap9)).setCell ⟨w.heap.size+1+1,3,none⟩ (.int .i64 (s.steps+st))) :=
      ⟨rfl,rfl,rfl,by simp,fun b _ hb => (Below.heap_setCell _ _ _ _ hb).trans (Below.heap_setCell _ _ _ _ hb)⟩
     have ISq:=Lib.hid (((IS9.set (j:=2) (by omega) (.slice og9 (s.out.length+M.out.length) cap9)).set (j:=3) (by omega) (.int .i64 (s.steps+st))).congr (I':=fun j => ([.int .i64 0,.int .i64 0,.slice og9 (s.out.length+M.out.length) cap9,.int .i64 (s.steps+st)]:List Value).getD j undef) (by
      intro j hj
      have hj':j=0 ∨ j=1 ∨ j=2 ∨ j=3:=by omega
      rcases hj' with rfl | rfl | rfl | rfl <;> rfl))
     have HFq:=Lib.hid (hF3.trans (hFs.mono (M':=fun b => b=g ∨ b=w.heap.size+1+1 ∨ out.ownBlock=some b) fun k _ e => .inr (.inl e)))
     have HFs:=Lib.hid hFs
     have HF9q:=Lib.hid ((HF9.out.mono (M':=fun b => b=w.heap.size+1+1 ∨ out.ownBlock=some b) fun k _ e => .inr e).trans (hFs.mono fun k _ e => .inl e))
     generalize (w9.setCell ⟨w.heap.size+1+1,2,none⟩ (.slice og9 (s.out.length+M.out.length) cap9)).setCell ⟨w.heap.size+1+1,3,none⟩ (.int .i64 (s.steps+st))=wq at hFs HFs HF9q HFq ISq ⊢
     have HROWq:=Lib.hid (HF9q.out.row HROWy.out fun b hb e => by
      obtain rfl:g=b:=by simpa [Value.ownBlock] using hb
      rcases e with (e:g=w.heap.size+1+1) | (e:out.ownBlock=some g)
      ·omega
      ·have:=(HOUTy.out.lt _ e).1; omega)
     have HOUTq:=Lib.hid (HFs.out.row hrow9 fun b hb (e:b=w.heap.size+1+1) => by have:=(hrow9.lt b hb).1; omega)
     have m0q:wq.cell? ⟨m,0,none⟩=some (.int .i64 num):=HFs.out.cell m0' (by simpa using hmS)
     clear hF3 hFs z2 f2 z3 f3 m0' m18' IS9 IM9 y2 ym hgr9 hrow9 m0 m17 m18
     have hM3:∀ k,k < w.heap.size→(k=g ∨ k=w.heap.size+1+1 ∨ out.ownBlock=some k)→(Value.slice (some ⟨g,0,none⟩) n cap).ownBlock=some k:=fun k hk e => by
      rcases e with rfl | e | e
      ·rfl
      ·omega
      ·have:=(HOUTy.out.lt _ e).1; omega
     have hfr:Frm (fun b => (Value.slice (some ⟨g,0,none⟩) n cap).ownBlock=some b) w wq :=
      ((HI.out.frm.mono (M':=fun b => (Value.slice (some ⟨g,0,none⟩) n cap).ownBlock=some b ∨ (b=g ∨ b=w.heap.size+1+1 ∨ out.ownBlock=some b)) fun k _ e => .inl e).trans (HFq.out.mono fun k _ e => .inr e)).mono fun k hk e => e.elim id (hM3 k hk)
     have hzq:=HFq.out.size
     have hlow:∀ k,k < w1.heap.size→k ≠ g→k ≠ w.heap.size+1+1→¬ (k=g ∨ k=w.heap.size+1+1 ∨ out.ownBlock=some k):=fun k hk h1 h2 e => by
      rcases e with e | e | e
      ·exact h1 e
      ·exact h2 e
      ·have:=(HOUTy.out.lt _ e).1; omega
     have hRn:=HI.out.run
     rw [HI.out.split hx] at hRn
     simp only [hrun] at hRn
     rw [HRR.out] at hRn
     have hls:=HI.out.lset hx ({ xp with cells:=M.cells },.slice cog xp.code.length ccap)
     have hcs:=HI.out.cset hx M.cells
     have hresq:=HFq.out.img HI.out.res (by omega) (hlow _ (by omega) (by omega) (by omega))
     by_cases h0:num=0
     ·have HN1:=Lib.hid (show RunInv w w1 c told time n (.slice (some ⟨g,0,none⟩) n cap) (i+1) (pre++[{ xp with cells:=M.cells }]) ⟨s.by_,s.num,s.steps+st,s.out++M.out⟩ (.slice og9 (s.out.length+M.out.length) cap9) (pl'.set i ({ xp with cells:=M.cells },.slice cog xp.code.length ccap)) wq from
       ⟨by omega,HI.out.by_,HI.out.num,by simpa [h0,List.append_assoc] using hRn,by simpa [List.append_assoc] using hls,by simp [HI.out.plen],HROWq.out,hcs,ISq.out,by simpa using HOUTq.out,by simp; omega,by
        constructor
        ·show 0≤s.steps+st; omega
        ·show s.steps+st≤200*((i+1:Nat):Int); omega,HFq.out.img HI.out.told (by omega) (hlow _ (by omega) (by omega) (by omega)),hresq,hfr,by omega⟩)
      clear hRn hls hcs hresq hfr hM3 hlow
      go_wp2_with fail
      refine ⟨⟨i+1,_,_,_,_,by simp,HN1.out⟩,?_⟩
      show n - ((i:Int)+1).toNat < n - ((i:Int)).toNat
      omega
     ·have HRn':=Lib.hid hRn
      have HLS:=Lib.hid hls
      have HCS:=Lib.hid hcs
      have HRES:=Lib.hid hresq
      have HFR:=Lib.hid hfr
      clear hRn hls hcs hresq hfr hM3 hlow
      go_upto_region 12 with fail
      have hxq:(pl'.set i (({ xp with cells:=M.cells }:HP),Value.slice cog xp.code.length ccap))[i]?=some ({ xp with cells:=M.cells },.slice cog xp.code.length ccap):=by
       rw [List.getElem?_set_self (by omega)]
      have q0:wq.cell? ⟨g,i*19,none⟩=some (.int .i64 xp.id):=row_range HROWq.out hxq 0 _ rfl
      have s0:=ISq.out.cell 0 (by omega)
      have s1:=ISq.out.cell 1 (by omega)
      have t0:=ISq.out.free 0 (by omega)
      have t1:=ISq.out.free 1 (by omega)
      have hgS:¬ g=w.heap.size+1+1:=by omega
      go_cut [8] (fun _ W => P.Img W (w.heap.size+1+1) 4 (fun j => ([.int .i64 xp.id,.int .i64 num,.slice og9 (s.out.length+M.out.length) cap9,.int .i64 (s.steps+st)]:List Value).getD j undef)∧Frm (fun b => b=w.heap.size+1+1) wq W)
      case first =>
       go_region
       go_wp2_with fail
       go_meet
       go_light
       refine ⟨?_,rfl,rfl,rfl,by simp,fun b _ hb => (Below.heap_setCell _ _ _ _ hb).trans (Below.heap_setCell _ _ _ _ hb)⟩
       exact Img.drew (((ISq.out.set (j:=0) (by omega) (.int .i64 xp.id)).set (j:=1) (by omega) (.int .i64 num)).congr fun j hj => by
        have hj':j=0 ∨ j=1 ∨ j=2 ∨ j=3:=by omega
        rcases hj' with rfl | rfl | rfl | rfl <;> rfl)
      case rest =>
       obtain ⟨IW,FW⟩:=hcut
       obtain ⟨wz,hwz⟩:∃ x,x=wc:=⟨_,rfl⟩; subst hwz
       have hresz:=FW.img HRES.out (by omega) (fun (e:w.heap.size+1=w.heap.size+1+1) => by omega)
       have k0:=IW.cell 0 (by omega)
       have k1:=IW.cell 1 (by omega)
       have k2:=IW.cell 2 (by omega)
       have k3:=IW.cell 3 (by omega)
       have r0:=hresz.cell 0 (by omega)
       have r1:=hresz.cell 1 (by omega)
       have r2:=hresz.cell 2 (by omega)
       have r3:=hresz.cell 3 (by omega)
       have f0:=hresz.free 0 (by omega)
       have f1:=hresz.free 1 (by omega)
       have f2:=hresz.free 2 (by omega)
       have f3:=hresz.free 3 (by omega)
       obtain ⟨PI,PF⟩:=said_put hresz xp.id num (s.steps+st) (.slice og9 (s.out.length+M.out.length) cap9)
       have PI':=Lib.hid PI
       have PF':=Lib.hid PF
       have hrowz:=FW.row HROWq.out fun k hk (e:k=w.heap.size+1+1) => by
        obtain rfl:g=k:=by simpa [Value.ownBlock] using hk
        omega
       have houtz:=FW.row HOUTq.out fun k hk (e:k=w.heap.size+1+1) => by have:=(HOUTq.out.lt k hk).1; omega
       have hfrz:Frm (fun b => (Value.slice (some ⟨g,0,none⟩) n cap).ownBlock=some b) w wz:=((HFR.out.mono (M':=fun b => (Value.slice (some ⟨g,0,none⟩) n cap).ownBlock=some b ∨ b=w.heap.size+1+1) fun k _ e => .inl e).trans (FW.mono fun k _ e => .inr e)).mono fun k hk e => e.elim id fun e => by omega
       have HRN:=Lib.hid (show hrun told time c.l .zero=(pre++({ xp with cells:=M.cells } :: c.l.drop (i+1)),⟨xp.id,num,s.steps+st,s.out++M.out⟩) by rw [HRn'.out]; simp only [h0,ne_eq,not_false_eq_true,if_true])
       have HFIN:=Lib.hid (run_fin HCH.out HN.out hs1 PF'.out hfrz HRN.out HLS.out hrowz HCS.out (by simpa using houtz))
       clear PI PF hresz hrowz houtz hfrz IW FW
       go_wp2_with fail
       exact bodyPost_ret (results_cell1 Tryz.results47 (p:=⟨w.heap.size+1,0,none⟩) (by simp [go_sem]) (said_load PI'.out)) rfl ⟨.slice og9 (s.out.length+M.out.length) cap9,by rw [HRN.out],HFIN.out.1,⟨_,HFIN.out.2.1⟩,HFIN.out.2.2⟩
  ·obtain rfl:i=n:=by omega
   have k0:=HI.out.said.cell 0 (by omega)
   have k1:=HI.out.said.cell 1 (by omega)
   have k2:=HI.out.said.cell 2 (by omega)
   have k3:=HI.out.said.cell 3 (by omega)
   have r0:=HI.out.res.cell 0 (by omega)
   have r1:=HI.out.res.cell 1 (by omega)
   have r2:=HI.out.res.cell 2 (by omega)
   have r3:=HI.out.res.cell 3 (by omega)
   have f0:=HI.out.res.free 0 (by omega)
   have f1:=HI.out.res.free 1 (by omega)
   have f2:=HI.out.res.free 2 (by omega)
   have f3:=HI.out.res.free 3 (by omega)
   obtain ⟨ogo,cpo,rfl⟩:=own_form HI.out.out
   obtain ⟨PI,PF⟩:=said_put HI.out.res 0 0 s.steps (.slice ogo s.out.length cpo)
   have PI':=Lib.hid PI
   have PF':=Lib.hid PF
   clear PI PF
   go_wp2_with fail
   have hRn:=HI.out.run
   have hl0:=HI.out.l
   rw [List.drop_of_length_le (by have:=HCH.out.l; rw [← this,List.length_map]; have:=HN.out; omega)] at hRn hl0
   rw [hrun_nil,List.append_nil] at hRn
   rw [List.append_nil] at hl0
   exact bodyPost_ret (results_cell1 Tryz.results47 (p:=⟨w.heap.size+1,0,none⟩) (by simp [go_sem]) (said_load PI'.out)) rfl ⟨.slice ogo s.out.length cpo,pl',by rw [hRn]; simp only [HI.out.by_,HI.out.num],run_fin HCH.out HN.out hs1 PF'.out HI.out.frm hRn hl0 HI.out.row HI.out.code HI.out.out⟩
end Go.Proofs.YtpdlmbbgioenoaaGreatDoor.W
namespace Go.Proofs.YtpdlmbbgioenoaaGreatDoor.W
open Go.RowKit Go.Proofs.YtpdlmbbgioenoaaGreatDoor.P
theorem DeskAt.ran {w W':World} {D:Nat} {d:HD} {vs qs:Nat→Value} {pls:Nat→List (HP × Value)} (h:DeskAt w D d vs qs pls) {k:Nat} (hk:k < 3) (hf:Frm (fun b => (vs k).ownBlock=some b) w W') {c':HC} {pl':List (HP × Value)} (hq:ChainAt W' c' (vs k) pl') (hnext:c'.next=(d.c k).next) :
  DeskAt W' D { d with c:=upd d.c k c' } vs qs (upd pls k pl'):=by
 have hv:=typed_row (h.chain k hk).row
 refine ⟨(hf.img h.img (by omega) fun e => (hv D e).ne h.typed (by decide) rfl).congr fun j hj => ?_,?_,fun j hj => ?_,fun j hj => (h.queue j hj).frm hf fun b hb e => ((h.queue j hj).typed b hb).ne (hv b e) (by decide) rfl,h.apartV,h.apartQ⟩
 ·unfold dimg
  by_cases h6:j < 6
  ·rw [if_pos h6,if_pos h6]
   by_cases h2:j % 2=0
   ·rw [if_pos h2,if_pos h2]
   ·rw [if_neg h2,if_neg h2]
    by_cases h3:j / 2=k
    ·subst h3; simp only [upd_same,hnext]
    ·simp only [upd_other h3]
  ·rw [if_neg h6,if_neg h6]
 ·obtain ⟨c,hc⟩:=h.typed
  exact ⟨c,(hf.block D h.typed.lt fun e => (hv D e).ne h.typed (by decide) rfl).trans hc⟩
 ·by_cases e:j=k
  ·subst e
   simp only [upd_same]
   exact hq
  ·simp only [upd_other e]
   exact (h.chain j hj).frm hf (fun b hb e2 => h.apartV j k b hj hk e hb e2) fun b ht e2 => ht.ne (hv b e2) (by decide) rfl
theorem DeskAt.setRest {w:World} {D:Nat} {d d':HD} {vs qs:Nat→Value} {pls:Nat→List (HP × Value)} (h:DeskAt w D d vs qs pls) {o:Nat} (ho:o < 16) {u:Value} (hc:d'.c=d.c) (hq:d'.q=d.q) (hi:∀ j,j < 16→upd (dimg d vs qs) o u j=dimg d' vs qs j) :
  DeskAt (w.setCell ⟨D,o,none⟩ u) D d' vs qs pls∧Frm (fun b => b=D) w (w.setCell ⟨D,o,none⟩ u):=by
 have hfs:Frm (fun b => b=D) w (w.setCell ⟨D,o,none⟩ u):=⟨rfl,rfl,rfl,by simp,fun b _ hb => Below.heap_setCell _ _ _ _ hb⟩
 refine ⟨⟨(h.img.set ho _).congr hi,typed_set h.typed _ _,fun j hj => ?_,fun j hj => ?_,h.apartV,h.apartQ⟩,hfs⟩
 ·rw [hc]
  exact (h.chain j hj).frm hfs (fun b hb e => ((typed_row (h.chain j hj).row b hb).ne h.typed (by decide)) e) (fun b ht e => (ht.ne h.typed (by decide)) e)
 ·rw [hq]
  exact (h.queue j hj).frm hfs (fun b hb e => ((h.queue j hj).typed b hb).ne h.typed (by decide) e)
theorem DeskAt.setLeft {w:World} {D:Nat} {d:HD} {vs qs:Nat→Value} {pls:Nat→List (HP × Value)} (h:DeskAt w D d vs qs pls) {k:Nat} (hk:k < 3) (x:Int) :
  DeskAt (w.setCell ⟨D,12+k,none⟩ (.int .i64 x)) D { d with left:=upd d.left k x } vs qs pls∧Frm (fun b => b=D) w (w.setCell ⟨D,12+k,none⟩ (.int .i64 x)):=by
 refine h.setRest (by omega) rfl rfl fun j hj => ?_
 by_cases e:j=12+k
 ·subst e
  rw [upd_same]
  unfold dimg
  rw [if_neg (by omega),if_neg (by omega),if_neg (by omega),if_pos (by omega),show 12+k - 12=k by omega]
  simp only [upd_same]
 ·rw [upd_other e]
  unfold dimg
  by_cases h6:j < 6
  ·rw [if_pos h6,if_pos h6]
  rw [if_neg h6,if_neg h6]
  by_cases h9:j < 9
  ·rw [if_pos h9,if_pos h9]
  rw [if_neg h9,if_neg h9]
  by_cases h12:j < 12
  ·rw [if_pos h12,if_pos h12]
  rw [if_neg h12,if_neg h12]
  by_cases h15:j < 15
  ·rw [if_pos h15,if_pos h15]
   simp only [upd_other (show j - 12 ≠ k by omega)]
  ·rw [if_neg h15,if_neg h15]
theorem DeskAt.setTime {w:World} {D:Nat} {d:HD} {vs qs:Nat→Value} {pls:Nat→List (HP × Value)} (h:DeskAt w D d vs qs pls) (x:Int) :
  DeskAt (w.setCell ⟨D,15,none⟩ (.int .i64 x)) D { d with time:=x } vs qs pls∧Frm (fun b => b=D) w (w.setCell ⟨D,15,none⟩ (.int .i64 x)):=by
 refine h.setRest (by omega) rfl rfl fun j hj => ?_
 by_cases e:j=15
 ·subst e; rw [upd_same]; rfl
 ·rw [upd_other e]
  unfold dimg
  by_cases h6:j < 6
  ·rw [if_pos h6,if_pos h6]
  rw [if_neg h6,if_neg h6]
  by_cases h9:j < 9
  ·rw [if_pos h9,if_pos h9]
  rw [if_neg h9,if_neg h9]
  by_cases h12:j < 12
  ·rw [if_pos h12,if_pos h12]
  rw [if_neg h12,if_neg h12,if_pos (by omega),if_pos (by omega)]
theorem QAt.tail {w:World} {e:Nat→Int} {r:List (Nat→Int)} {v:Value} (h:QAt w (e :: r) v):∃ g o cap,v=.slice (some ⟨g,o*8,none⟩) (r.length+1) cap∧r.length+1≤cap∧cap≤maxLen∧w.rangeAt g (o*8) (t8 e)∧QAt w r (.slice (some ⟨g,(o+1)*8,none⟩) r.length (cap - 1)):=by
 obtain ⟨og,cap,rfl,h2,h3,h4⟩:=h
 simp only [List.length_cons] at h2 h4 ⊢
 rcases h4 with ⟨_,h0⟩ | ⟨g,o,cur,rfl,hg,h5,h6⟩
 ·omega
 ·refine ⟨g,o,cap,rfl,h2,h3,fun j u hj => ?_,_,_,rfl,by omega,by omega,.inr ⟨g,o+1,cur,rfl,hg,by omega,?_⟩⟩
  ·have hj8:j < 8:=by have:=(List.getElem?_eq_some_iff.1 hj).1; rwa [t8_len] at this
   rw [cell_of_row w g (o*8+j) cur 183 (0,0) hg]
   have e1:((cur.toList.drop (o*8)).take ((r.length+1)*8))[j]?=some u:=by
    rw [h6,List.flatMap_cons,List.getElem?_append_left (by rw [t8_len]; omega)]; exact hj
   rw [List.getElem?_take,if_pos (by omega),List.getElem?_drop] at e1
   simpa using e1
  ·have e2:(cur.toList.drop ((o+1)*8)).take (r.length*8)=((cur.toList.drop (o*8)).take ((r.length+1)*8)).drop 8:=by
    rw [List.drop_take,List.drop_drop]
    congr 1 <;> (try congr 1) <;> omega
   rw [e2,h6,List.flatMap_cons,List.drop_append_of_le_length (by rw [t8_len]; omega),List.drop_of_length_le (by rw [t8_len]; omega),List.nil_append]
end Go.Proofs.YtpdlmbbgioenoaaGreatDoor.W
namespace Go.Proofs.YtpdlmbbgioenoaaGreatDoor.W
open Go.RowKit Go.Proofs.YtpdlmbbgioenoaaGreatDoor.P
def hdAt (d:HD) (k:Nat) (s:HS):HD:=⟨upd d.c k s.c,upd d.q k s.q,d.may,upd d.left k s.left,s.time⟩
def hdStart (d:HD) (k:Nat):HS:=⟨d.c k,d.q k,d.left k+d.may k,d.time,[]⟩
theorem hdAt_start (d:HD) (k:Nat):({ d with left:=upd d.left k (d.left k+d.may k) }:HD)=hdAt d k (hdStart d k):=by
 unfold hdAt hdStart; simp only [upd_self]
theorem hdAt_one (d:HD) (k:Nat) (s:HS) (e:Nat→Int) (r:List (Nat→Int)):(⟨upd (hdAt d k s).c k ⟨(hrun e s.time s.c.l .zero).1,s.c.next⟩,upd (hdAt d k s).q k r,d.may,upd (hdAt d k s).left k (s.left - ((hrun e s.time s.c.l .zero).2.steps+1)),s.time+1⟩:HD)=hdAt d k (s.one e r):=by
 unfold hdAt HS.one; simp only [upd_upd']
theorem hdAt_end (d:HD) (k:Nat):({ hdAt d k (d.turn k) with left:=upd (hdAt d k (d.turn k)).left k (d.turn k).rest }:HD)=d.after k:=by
 unfold hdAt HD.after; simp only [upd_upd']
theorem hdAt_left (d:HD) (k:Nat) (s:HS):(hdAt d k s).left k=s.left:=upd_same _ _ _
theorem hdAt_q (d:HD) (k:Nat) (s:HS):(hdAt d k s).q k=s.q:=upd_same _ _ _
theorem hdAt_c (d:HD) (k:Nat) (s:HS):(hdAt d k s).c k=s.c:=upd_same _ _ _
theorem hdAt_keep (d:HD) (k:Nat) (s:HS) (h:s.q=[] ∨ True) (hr:s.rest=s.left):({ hdAt d k s with left:=upd (hdAt d k s).left k s.rest }:HD)=hdAt d k s:=by
 rw [hr]; unfold hdAt; simp only [upd_upd']
theorem drain_step {s:HS} {e:Nat→Int} {r:List (Nat→Int)} (hq:s.q=e :: r) (hl:0 < s.left):P.drain s.q.length s=P.drain (s.one e r).q.length (s.one e r):=by
 rw [hq]
 show P.drain (r.length+1) s=P.drain r.length (s.one e r)
 rw [P.drain,hq]
 simp only
 rw [if_pos hl]
theorem drain_stop {s:HS} (h:s.q=[] ∨ ¬ 0 < s.left):P.drain s.q.length s=s:=by
 rcases h with h | h
 ·rw [h]; rfl
 ·exact drain_idle _ s (by omega)
theorem drain_time:∀ (k:Nat) (s:HS),(P.drain k s).time+(P.drain k s).q.length=s.time+s.q.length∧s.time≤(P.drain k s).time
 | 0,s => ⟨rfl,Int.le_refl _⟩
 | k+1,s => by
  unfold P.drain
  cases hq:s.q with
  | nil => exact ⟨by simp only [hq],Int.le_refl _⟩
  | cons e r =>
   simp only
   by_cases hl:0 < s.left
   ·rw [if_pos hl]
    have:=drain_time k (s.one e r)
    have e1:(s.one e r).time=s.time+1:=rfl
    have e2:(s.one e r).q=r:=rfl
    rw [e1,e2] at this
    simp only [List.length_cons]
    omega
   ·rw [if_neg hl]; exact ⟨by rw [hq],Int.le_refl _⟩
def hdAfters (d:HD):Nat→HD
 | 0 => d
 | k+1 => (hdAfters d k).after k
def hdDones (d:HD):Nat→List (Int × Sd)
 | 0 => []
 | k+1 => hdDones d k++(hdAfters d k).doneOf k
theorem hdAfters_three (d:HD):hdAfters d 3=d.round:=rfl
theorem hdDones_three (d:HD):hdDones d 3=d.done:=rfl
theorem hdAfters_keep (d:HD):∀ (n j:Nat),n≤j→(hdAfters d n).left j=d.left j∧(hdAfters d n).q j=d.q j∧(hdAfters d n).may=d.may
 | 0,j,_ => ⟨rfl,rfl,rfl⟩
 | n+1,j,h => by
  obtain ⟨h1,h2,h3⟩:=hdAfters_keep d n j (by omega)
  unfold hdAfters HD.after
  exact ⟨(upd_other (by omega)).trans h1,(upd_other (by omega)).trans h2,h3⟩
theorem turn_time (d:HD) (k:Nat):(d.turn k).time+(d.turn k).q.length=d.time+(d.q k).length∧d.time≤(d.turn k).time:=drain_time _ _
theorem hdAfters_time (d:HD) (hq:∀ j,j < 3→(d.q j).length≤20):∀ n:Nat,n≤3→d.time≤(hdAfters d n).time∧(hdAfters d n).time≤d.time+20*n
 | 0,_ => by simp [hdAfters]
 | n+1,hn => by
  have ih:=hdAfters_time d hq n (by omega)
  have ht:=turn_time (hdAfters d n) n
  have h2:=(hdAfters_keep d n n (Nat.le_refl _)).2.1
  have h3:=hq n (by omega)
  rw [h2] at ht
  have e:(hdAfters d (n+1)).time=((hdAfters d n).turn n).time:=rfl
  rw [e]
  push_cast
  omega
structure SOk (d:HD) (k:Nat) (s:HS):Prop where
 drain:P.drain s.q.length s=d.turn k
 lo:-1000000002000≤s.left
 hi:s.left≤2000000000000
 time:s.time+s.q.length=d.time+(d.q k).length
 since:d.time≤s.time
 few:s.done.length+s.q.length=(d.q k).length
theorem SOk.start {d:HD} {k:Nat} (h1:-1000000000000≤d.left k) (h2:d.left k≤1000000000000) (h3:0≤d.may k) (h4:d.may k≤1000):SOk d k (hdStart d k) :=
 ⟨rfl,by show _≤d.left k+d.may k; omega,by show d.left k+d.may k≤_; omega,rfl,Int.le_refl _,by show 0+_=_; rw [Nat.zero_add]; rfl⟩
theorem SOk.one {d:HD} {k:Nat} {s:HS} (h:SOk d k s) {e:Nat→Int} {r:List (Nat→Int)} (hq:s.q=e :: r) (hl:0 < s.left) (h8:s.c.l.length≤8):SOk d k (s.one e r):=by
 have hs:=hrun_steps e s.time s.c.l .zero
 have z:Sd.zero.steps=0:=rfl
 rw [z] at hs
 have ht:=h.time
 rw [hq,List.length_cons] at ht
 have e1:(s.one e r).left=s.left - ((hrun e s.time s.c.l .zero).2.steps+1):=rfl
 have e2:(s.one e r).time=s.time+1:=rfl
 have e3:(s.one e r).q=r:=rfl
 have hlo:=h.lo
 have hhi:=h.hi
 have hsi:=h.since
 have hfw:=h.few
 rw [hq,List.length_cons] at hfw
 refine ⟨(drain_step hq hl).symm.trans h.drain,?_,?_,?_,?_,?_⟩
 ·rw [e1]; omega
 ·rw [e1]; omega
 ·rw [e2,e3]; omega
 ·rw [e2]; omega
 ·unfold HS.one; simp only [List.length_append,List.length_cons,List.length_nil]; omega
theorem QAt.last {w:World} {e:Nat→Int} {r:List (Nat→Int)} {g o:Nat} (h:QAt w (e :: r) (.slice (some ⟨g,o*8,none⟩) (r.length+1) 1)):QAt w r (.slice (some ⟨g,o*8,none⟩) r.length 0):=by
 obtain ⟨og,cap,hv,h2,h3,h4⟩:=h
 simp only [Value.slice.injEq] at hv
 obtain ⟨rfl,-,rfl⟩:=hv
 have hr:r=[]:=List.eq_nil_of_length_eq_zero (by simp only [List.length_cons] at h2; omega)
 subst hr
 refine ⟨_,0,rfl,Nat.le_refl _,by unfold maxLen; omega,?_⟩
 rcases h4 with ⟨h4,_⟩ | ⟨g',o',cur,h4,hg,h5,_⟩
 ·cases h4
 ·simp only [Option.some.injEq,Addr.mk.injEq,and_true] at h4
  obtain ⟨rfl,h4⟩:=h4
  exact .inr ⟨g,o,cur,rfl,hg,by omega,by simp⟩
def done5 (x:Int × Sd × Value):List Value:=[.int .i64 x.1,.int .i64 x.2.1.by_,.int .i64 x.2.1.num,x.2.2,.int .i64 x.2.1.steps]
theorem done5_len (x:Int × Sd × Value):(done5 x).length=5:=rfl
structure DonesAt (w:World) (B:Nat) (L:List (Int × Sd × Value)) (v:Value):Prop where
 row:w.ownsRow B 105 5 v L.length (L.flatMap done5)
 outs:∀ x ∈ L,w.ownsRow B 2 1 x.2.2 x.2.1.out.length (x.2.1.out.map (Value.int .i64))
theorem DonesAt.zero (w:World) (B:Nat):DonesAt w B [] (.slice none 0 0):=⟨World.ownsRow_nil _ _ _ _,fun x h => by cases h⟩
theorem DonesAt.frm {M:Nat→Prop} {w w':World} {B:Nat} {L:List (Int × Sd × Value)} {v:Value} (h:DonesAt w B L v) (hf:Frm M w w') (h1:∀ b,v.ownBlock=some b→¬ M b) (h2:∀ b,Typed w b 2→¬ M b):DonesAt w' B L v :=
 ⟨hf.row h.row h1,fun x hx => hf.row (h.outs x hx) fun b hb => h2 b (typed_row (h.outs x hx) b hb)⟩
theorem infoDone:((Tryz.prog).info? 105).map (fun i => (i.zero,i.size,i.bytes))=some (some (.agg #[.int .i64 0,.int .i64 0,.int .i64 0,.slice none 0 0,.int .i64 0]),5,56):=by kernel_rfl
theorem done_append (B:Nat) (L:List (Int × Sd × Value)) (v:Value) (x:Int × Sd × Value) (ad c:Nat) (w:World) (hB:B≤w.heap.size) (h:DonesAt w B L v) (hx:w.ownsRow B 2 1 x.2.2 x.2.1.out.length (x.2.1.out.map (Value.int .i64))) (had:∀ j u,(done5 x)[j]?=some u→w.cell? ⟨ad,j,none⟩=some u) (hs:L.length≤1000) :
  ∃ v' w',(Builtin.append_ #[100,100] 100 #[v,.slice (some ⟨ad,0,none⟩) 1 c]).run Tryz.prog w=.ok v' w'∧DonesAt w' B (L++[x]) v'∧w.grownBy w' v.ownBlock:=by
 obtain ⟨i0,hi0,hz⟩:=Option.map_eq_some_iff.1 infoDone
 have hz0:i0.zero=some _:=congrArg (·.1) hz
 have hz1:i0.size=5:=congrArg (·.2.1) hz
 have hz2:i0.bytes=56:=congrArg (·.2.2) hz
 obtain ⟨ogx,cpx,ho⟩:=own_form hx
 obtain ⟨v',w',hr,h2,h3,_,_⟩:=run_append_own_at (P:=Tryz.prog) (w:=w) B 100 100 105 i0 _ 5 56 Tryz.underlying100 hi0 hz0 hz1 hz2 rfl (by decide) v L.length (L.flatMap done5) h.row ⟨ad,0,none⟩ 1 c (done5 x) rfl (fun j u hj => by
   have ea:w.cell? (Addr.add ⟨ad,0,none⟩ j)=w.cell? ⟨ad,j,none⟩:=by
    simp [Addr.add]
    split <;> simp_all
   rw [ea]; exact had j u hj) (fun u hu => by
   unfold done5 at hu
   simp only [List.mem_cons,List.not_mem_nil,or_false] at hu
   rcases hu with rfl | rfl | rfl | rfl | rfl
   all_goals first | rfl | (rw [ho]; rfl)) (by unfold maxLen; omega) (by omega) hB
 refine ⟨v',w',hr,⟨?_,fun y hy => ?_⟩,h3⟩
 ·rw [List.length_append,List.flatMap_append]
  simpa using h2
 ·have keep:∀ {u:Value} {n:Nat} {xs:List Value},w.ownsRow B 2 1 u n xs→w'.ownsRow B 2 1 u n xs:=fun hrow => (Frm.grown h3 (M:=fun b => v.ownBlock=some b) fun k e => e).row hrow fun b hb e => ((typed_row hrow b hb).ne (typed_row h.row b e) (by decide)) rfl
  rcases List.mem_append.1 hy with hy | hy
  ·exact keep (h.outs y hy)
  ·rw [List.mem_singleton] at hy
   subst hy
   exact keep hx
theorem Typed.same {w:World} {b:Nat} {s t:TypeId} (h:Typed w b s) (k:Typed w b t):s=t:=by
 obtain ⟨c,hc⟩:=h; obtain ⟨c',hd⟩:=k
 rw [hc] at hd
 injection hd with hd; injection hd
theorem Owns.kind {w:World} {D:Nat} {d:HD} {vs qs:Nat→Value} {pls:Nat→List (HP × Value)} (h:DeskAt w D d vs qs pls) {b:Nat} (hb:Owns D vs qs b) {t:TypeId} (ht:Typed w b t):t=116 ∨ t=134 ∨ t=183:=by
 rcases hb with rfl | ⟨k,hk,hb | hb⟩
 ·exact .inl (ht.same h.typed)
 ·exact .inr (.inl (ht.same (typed_row (h.chain k hk).row b hb)))
 ·exact .inr (.inr (ht.same ((h.queue k hk).typed b hb)))
theorem drain_len:∀ (k:Nat) (s:HS),(P.drain k s).done.length+(P.drain k s).q.length=s.done.length+s.q.length
 | 0,s => rfl
 | k+1,s => by
  unfold P.drain
  cases hq:s.q with
  | nil => simp only [hq]
  | cons e r =>
   simp only
   by_cases hl:0 < s.left
   ·rw [if_pos hl,drain_len k (s.one e r)]
    unfold HS.one
    simp only [List.length_append,List.length_cons,List.length_nil]
    omega
   ·rw [if_neg hl,hq]
theorem hdDones_len (d:HD) (hq:∀ j,j < 3→(d.q j).length≤20):∀ n:Nat,n≤3→(hdDones d n).length≤20*n
 | 0,_ => Nat.le_refl _
 | n+1,hn => by
  have ih:=hdDones_len d hq n (by omega)
  have h2:=(hdAfters_keep d n n (Nat.le_refl _)).2.1
  have h3:=hq n (by omega)
  have h4:=drain_len ((hdAfters d n).q n).length (hdStart (hdAfters d n) n)
  have e1:(hdStart (hdAfters d n) n).q=(hdAfters d n).q n:=rfl
  have e2:(hdStart (hdAfters d n) n).done=[]:=rfl
  have e3:P.drain ((hdAfters d n).q n).length (hdStart (hdAfters d n) n)=(hdAfters d n).turn n:=rfl
  rw [e1,e2,e3,h2,List.length_nil] at h4
  unfold hdDones HD.doneOf
  rw [List.length_append,List.length_map]
  omega
theorem setCell_frm (w:World) (b j:Nat) (v:Value):Frm (fun k => k=b) w (w.setCell ⟨b,j,none⟩ v):=⟨rfl,rfl,rfl,by simp,fun k _ hk => Below.heap_setCell _ _ _ _ hk⟩
theorem Typed.frm' {M:Nat→Prop} {w w':World} {b:Nat} {s:TypeId} (h:Typed w b s) (hf:Frm M w w') (hM:¬ M b):Typed w' b s:=by
 obtain ⟨c,hc⟩:=h
 exact ⟨c,(hf.block b (Array.getElem?_eq_some_iff.1 hc).1 hM).trans hc⟩
theorem said_one (a b:Int) (og:Option Addr) (n c:Nat) (z:Int):∀ v ∈ ([.int .i64 a,.int .i64 b,.slice og n c,.int .i64 z]:List Value),v.oneCell'=true:=by
 intro v hv
 simp only [List.mem_cons,List.not_mem_nil,or_false] at hv
 rcases hv with rfl | rfl | rfl | rfl <;> rfl
theorem there_frm {M:Nat→Prop} {W W':World} {b o n:Nat} (h:W.there b o n) (hf:Frm M W W') (hM:¬ M b) (hl:b < W.heap.size):W'.there b o n:=fun j hj => by
 obtain ⟨h1,h2⟩:=h j hj
 have hb:=hf.block b hl hM
 exact ⟨by rw [World.cell?_of_block (w:=W) (a:=⟨b,o+j,none⟩) hb]; exact h1,by rw [World.frozen?_of_block (w:=W) (a:=⟨b,o+j,none⟩) hb]; exact h2⟩
theorem said_end {w2 w5 W:World} {c:HC} {v o:Value} {pl:List (HP × Value)} {m n:Nat} {xs:List Value} (hf:Frm (fun b => v.ownBlock=some b) w2 w5) (hrow:w5.ownsRow w2.heap.size 2 1 o n xs) (hch:ChainAt w5 c v pl) (hz:Frm (fun b => b=m) w5 W) (hm:w2.heap.size≤m) (hv:∀ b,v.ownBlock=some b→b < w2.heap.size) (hs:∀ b,o.ownBlock=some b→b ≠ m) (ht:∀ b,Typed w5 b 81→b ≠ m) :
  W.ownsRow w2.heap.size 2 1 o n xs∧ChainAt W c v pl∧Frm (fun b => v.ownBlock=some b) w2 W :=
 ⟨hz.row hrow hs,hch.frm hz (fun b hb e => by have:=hv b hb; omega) ht,((hf.mono (M':=fun b => v.ownBlock=some b ∨ b=m) fun k _ e => .inl e).trans (hz.mono fun k _ e => .inr e)).mono fun k hk e => e.elim id fun e => by omega⟩
def i8 (e:Nat→Int):Nat→Value:=fun j => ([.int .i64 (e 0),.int .i64 (e 1),.int .i64 (e 2),.int .i64 (e 3),.int .i64 (e 4),.int .i64 (e 5),.int .i64 (e 6),.int .i64 (e 7)]:List Value).getD j undef
def i4 (a b:Int) (o:Value) (c:Int):Nat→Value:=fun j => ([.int .i64 a,.int .i64 b,o,.int .i64 c]:List Value).getD j undef
theorem roundS {W:World} {b D:Nat} {e:Nat→Int} {d:HD} {vs qs:Nat→Value} (h:P.Img W b 8 (i8 e)) (hd:P.Img W D 16 (dimg d vs qs)):W.cell? ⟨b,0,none⟩=some (.int .i64 (e 0))∧W.cell? ⟨b,1,none⟩=some (.int .i64 (e 1))∧W.cell? ⟨b,2,none⟩=some (.int .i64 (e 2))∧W.cell? ⟨b,3,none⟩=some (.int .i64 (e 3))∧W.cell? ⟨b,4,none⟩=some (.int .i64 (e 4))∧W.cell? ⟨b,5,none⟩=some (.int .i64 (e 5))∧W.cell? ⟨b,6,none⟩=some (.int .i64 (e 6))∧W.cell? ⟨b,7,none⟩=some (.int .i64 (e 7))∧W.cell? ⟨D,15,none⟩=some (.int .i64 d.time) :=
 ⟨h.cell 0 (by omega),h.cell 1 (by omega),h.cell 2 (by omega),h.cell 3 (by omega),h.cell 4 (by omega),h.cell 5 (by omega),h.cell 6 (by omega),h.cell 7 (by omega),hd.cell 15 (by omega)⟩
structure RoundAt (w:World) (D:Nat) (vs qs:Nat→Value) (d':HD) (dn:List (Int × Sd)) (y:Value) (qs':Nat→Value) (pls':Nat→List (HP × Value)) (L:List (Int × Sd × Value)) (wr:World):Prop where
 desk:DeskAt wr D d' vs qs' pls'
 dones:DonesAt wr w.heap.size L y
 eq:L.map (fun x => (x.1,x.2.1))=dn
 frm:Frm (Owns D vs qs) w wr
 own:∀ b,Owns D vs qs' b→Owns D vs qs b ∨ w.heap.size≤b
section
variable {w wr wr':World} {D:Nat} {vs qs qs' qs'':Nat→Value} {d' d'':HD} {dn:List (Int × Sd)} {y:Value} {pls' pls'':Nat→List (HP × Value)} {L:List (Int × Sd × Value)}
theorem RoundAt.step (h:RoundAt w D vs qs d' dn y qs' pls' L wr) (hf:Frm (Owns D vs qs') wr wr') (hd:DeskAt wr' D d'' vs qs'' pls'') (ho:∀ b,Owns D vs qs'' b→Owns D vs qs' b ∨ wr.heap.size≤b):RoundAt w D vs qs d'' dn y qs'' pls'' L wr':=by
 refine ⟨hd,h.dones.frm hf (fun b hb e => ?_) (fun b ht e => ?_),h.eq,?_,fun b hb => ?_⟩
 ·have:=Owns.kind h.desk e (typed_row h.dones.row b hb); revert this; decide
 ·have:=Owns.kind h.desk e ht; revert this; decide
 ·exact ((h.frm.mono (M':=fun b => Owns D vs qs b ∨ w.heap.size≤b) fun k _ e => .inl e).trans (hf.mono fun k _ e => h.own k e)).mono fun k hk e => e.elim id fun e => by omega
 ·rcases ho b hb with e | e
  ·exact h.own b e
  ·exact .inr (Nat.le_trans h.frm.size e)
theorem RoundAt.later (h:RoundAt w D vs qs d' dn y qs' pls' L wr) (hb:Below wr.heap.size wr wr'):RoundAt w D vs qs d' dn y qs' pls' L wr' :=
 h.step ((Frm.of hb (M:=Owns D vs qs'))) (h.desk.later hb) fun b hb => .inl hb
theorem RoundAt.left (h:RoundAt w D vs qs d' dn y qs' pls' L wr) {k:Nat} (hk:k < 3) (x:Int):RoundAt w D vs qs { d' with left:=upd d'.left k x } dn y qs' pls' L (wr.setCell ⟨D,12+k,none⟩ (.int .i64 x)):=by
 obtain ⟨h1,h2⟩:=h.desk.setLeft hk x
 exact h.step (h2.mono fun b _ e => .inl e) h1 fun b hb => .inl hb
theorem RoundAt.time (h:RoundAt w D vs qs d' dn y qs' pls' L wr) (x:Int):RoundAt w D vs qs { d' with time:=x } dn y qs' pls' L (wr.setCell ⟨D,15,none⟩ (.int .i64 x)):=by
 obtain ⟨h1,h2⟩:=h.desk.setTime x
 exact h.step (h2.mono fun b _ e => .inl e) h1 fun b hb => .inl hb
theorem RoundAt.tail (h:RoundAt w D vs qs d' dn y qs' pls' L wr) {k:Nat} (hk:k < 3) {r:List (Nat→Int)} {v':Value} (hq:QAt wr r v') (hown:∀ b,v'.ownBlock=some b→(qs' k).ownBlock=some b):RoundAt w D vs qs { d' with q:=upd d'.q k r } dn y (upd qs' k v') pls' L (wr.setCell ⟨D,6+k,none⟩ v'):=by
 obtain ⟨h1,h2,h3⟩:=h.desk.setQ hk (Frm.refl _ wr) hq (.inl hown)
 exact h.step h2 h1 h3
theorem RoundAt.ran (h:RoundAt w D vs qs d' dn y qs' pls' L wr) {k:Nat} (hk:k < 3) (hf:Frm (fun b => (vs k).ownBlock=some b) wr wr') {c':HC} {pl':List (HP × Value)} (hq:ChainAt wr' c' (vs k) pl') (hnext:c'.next=(d'.c k).next):RoundAt w D vs qs { d' with c:=upd d'.c k c' } dn y qs' (upd pls' k pl') L wr' :=
 h.step (hf.mono fun b _ e => .inr ⟨k,hk,.inl e⟩) (h.desk.ran hk hf hq hnext) fun b hb => .inl hb
theorem RoundAt.add (h:RoundAt w D vs qs d' dn y qs' pls' L wr) {x:Int × Sd × Value} {y':Value} (hd:DonesAt wr' w.heap.size (L++[x]) y') (hg:wr.grownBy wr' y.ownBlock):RoundAt w D vs qs d' (dn++[(x.1,x.2.1)]) y' qs' pls' (L++[x]) wr':=by
 have hf:=Frm.grown hg (M:=fun b => y.ownBlock=some b) fun k e => e
 refine ⟨h.desk.frm hf (fun b hb e => ?_) (fun b ht e => ?_),hd,?_,?_,h.own⟩
 ·have:=Owns.kind h.desk hb (typed_row h.dones.row b e); revert this; decide
 ·have:=ht.same (typed_row h.dones.row b e); revert this; decide
 ·rw [List.map_append,h.eq]; rfl
 ·exact ((h.frm.mono (M':=fun b => Owns D vs qs b ∨ w.heap.size≤b) fun k _ e => .inl e).trans (hf.mono fun k _ e => .inr (h.dones.row.lt k e).1)).mono fun k hk e => e.elim id fun e => by omega
theorem RoundAt.noErr (h:RoundAt w D vs qs d' dn y qs' pls' L wr) {g:Nat} (hgw:g < w.heap.size) (hg:¬ Owns D vs qs g) {k:Nat} (hk:k < 3):(vs k).ownBlock ≠ some g:=fun e => by
 rcases h.own g (.inr ⟨k,hk,.inl e⟩) with e | e
 ·exact hg e
 ·omega
end
end Go.Proofs.YtpdlmbbgioenoaaGreatDoor.W
namespace Go.Proofs.YtpdlmbbgioenoaaGreatDoor.W
open Go.RowKit Go.Proofs.YtpdlmbbgioenoaaGreatDoor.P
def lenV:Value→Nat
 | .slice _ n _ => n
 | _ => 0
set_option maxHeartbeats 100000000 in
theorem Round_any {w:World} {D:Nat} {d:HD} {vs qs:Nat→Value} {pls:Nat→List (HP × Value)} (h:DeskAt w D d vs qs pls) (hg:ErrT w) (hgo:¬ Owns D vs qs 4)
  (hleft:∀ k,k < 3→-1000000000000≤d.left k∧d.left k≤1000000000000) (hmay:∀ k,k < 3→0≤d.may k∧d.may k≤1000) (htime:-1000000000≤d.time∧d.time≤1000000000) (hq:∀ k,k < 3→(d.q k).length≤20) :
  Calls Tryz.prog 37 #[.pointer (some ⟨D,0,none⟩)] w fun e w' => ∃ y qs' pls' L,e=.returned y∧RoundAt w D vs qs d.round d.done y qs' pls' L w':=by
 have HR0:=Lib.hid (show RoundAt w D vs qs (hdAfters d 0) (hdDones d 0) (.slice none 0 0) qs pls [] w from ⟨h,DonesAt.zero _ _,rfl,Frm.refl _ _,fun b hb => .inl hb⟩)
 have HG:=Lib.hid hg
 have HGO:=Lib.hid hgo
 have HL:=Lib.hid hleft
 have HM:=Lib.hid hmay
 have HQ:=Lib.hid hq
 have HT:=Lib.hid htime
 have hgw:4 < w.heap.size:=block_lt_of_cell hg
 clear h hg hgo hleft hmay hq htime
 go_enter Tryz.func37,Tryz.ntmps37
 go_wp2_with fail
 go_loopw [7,3] (fun x y wr => ∃ (k:Nat) (qs':Nat→Value) (pls':Nat→List (HP × Value)) (L:List (Int × Sd × Value)),k≤3∧x=.int .i64 k∧RoundAt w D vs qs (hdAfters d k) (hdDones d k) y qs' pls' L wr) (fun x _ _ => 3 - (intOf x).toNat)
 case atStart => exact ⟨0,qs,pls,[],by omega,rfl,HR0.out⟩
 case round =>
  obtain ⟨k,qs',pls',L,hk,rfl,hR⟩:=hrel
  obtain ⟨oy,cy,rfl⟩:=own_form hR.dones.row
  have HR:=Lib.hid hR
  clear hR HR0
  by_cases hk3:k < 3
  ·have k4:(k:Int) < 3:=by omega
   have hkp:=hdAfters_keep d k k (Nat.le_refl _)
   have hl0:=HL.out k hk3
   have hm0:=HM.out k hk3
   have hq0:=HQ.out k hk3
   have htk:=hdAfters_time d HQ.out k hk
   have hlk:=hdDones_len d HQ.out k hk
   have ht0:=HT.out
   rw [← hkp.1] at hl0
   rw [← hkp.2.1] at hq0
   have e12:wr.cell? ⟨D,12+k,none⟩=some (.int .i64 ((hdAfters d k).left k)):=(HR.out.desk.img.cell (12+k) (by omega)).trans (congrArg some (dimg_left hk3))
   have e9:wr.cell? ⟨D,9+k,none⟩=some (.int .i64 ((hdAfters d k).may k)):=(HR.out.desk.img.cell (9+k) (by omega)).trans (congrArg some (dimg_may hk3))
   have g12:=HR.out.desk.img.free (12+k) (by omega)
   rw [← hkp.2.2] at hm0
   obtain ⟨dn,hdn⟩:∃ dn,hdDones d k=dn:=⟨_,rfl⟩
   obtain ⟨dk,hdk⟩:∃ dk,hdAfters d k=dk:=⟨_,rfl⟩
   have HE:=Lib.hid (show hdAfters d (k+1)=dk.after k∧hdDones d (k+1)=dn++dk.doneOf k by subst hdn; subst hdk; exact ⟨rfl,rfl⟩)
   rw [hdk] at hl0 hq0 hm0 htk e12 e9
   rw [hdn] at hlk
   have HR2:=Lib.hid (show RoundAt w D vs qs dk dn (.slice oy L.length cy) qs' pls' L wr by subst hdk; subst hdn; exact HR.out)
   have HS0:=Lib.hid (SOk.start (d:=dk) (k:=k) (by omega) (by omega) hm0.1 hm0.2)
   have htk':dk.time≤1000000060:=by omega
   have htl:-1000000000≤dk.time:=by omega
   clear hkp ht0 htk hdk hdn HR
   have hw:IntKind.i64.wrap (dk.left k+dk.may k)=dk.left k+dk.may k:=by rw [IntKind.wrap_i64]; omega
   go_upto_region 5 with fail
   go_cut [10] (fun _ W => RoundAt w D vs qs (hdAt dk k (hdStart dk k)) dn (.slice oy L.length cy) qs' pls' L W)
   case first =>
    go_region
    go_wp2_with fail
    go_meet
    go_light
    have:=HR2.out.left hk3 (dk.left k+dk.may k)
    rw [hdAt_start] at this
    exact this.later (Below.refl _ _).drew
   case rest =>
    obtain ⟨wx,hwx⟩:∃ x,x=wc:=⟨_,rfl⟩; subst hwx
    have HX:=Lib.hid hcut
    clear hcut e12 e9 g12 hw HR2
    go_wp2_with fail
    go_loopw [3] (fun y wr => ∃ (s:HS) (qs':Nat→Value) (pls':Nat→List (HP × Value)) (L:List (Int × Sd × Value)),SOk dk k s∧RoundAt w D vs qs (hdAt dk k s) (dn++s.done.map fun t => ((k:Int),t)) y qs' pls' L wr) (fun y _ => 100 - lenV y)
    case atStart => exact ⟨_,_,_,_,HS0.out,by simpa [hdStart] using HX.out⟩
    case round =>
     obtain ⟨s,qs2,pls2,L2,hS,hR2⟩:=hrel
     obtain ⟨oy,cy,rfl⟩:=own_form hR2.dones.row
     have hq2:=hR2.desk.queue k hk3
     rw [hdAt_q] at hq2
     have cq0:wr.cell? ⟨D,6+k,none⟩=some (qs2 k):=(hR2.desk.img.cell (6+k) (by omega)).trans (congrArg some (dimg_q hk3))
     have cl0:wr.cell? ⟨D,12+k,none⟩=some (.int .i64 s.left):=(hR2.desk.img.cell (12+k) (by omega)).trans (congrArg some ((dimg_left hk3).trans (by rw [hdAt_left])))
     have hLl:L2.length=dn.length+s.done.length:=by have:=congrArg List.length hR2.eq; simpa using this
     have HR3:=Lib.hid hR2
     have HS:=Lib.hid hS
     have HQ2:=Lib.hid hq2
     have HFW:=Lib.hid hS.few
     have HLL:=Lib.hid hLl
     clear hLl
     clear hR2 hS hq2 HX HS0
     by_cases hc:0 < s.q.length∧0 < s.left
     ·obtain ⟨hc1,hc2⟩:=hc
      obtain ⟨e,r,her⟩:∃ e r,s.q=e :: r:=by
       cases hx:s.q with
       | nil => rw [hx] at hc1; simp at hc1
       | cons e r => exact ⟨e,r,rfl⟩
      have hQ:=HQ2.out
      rw [her] at hQ
      obtain ⟨g,o,cap,hqv,hcp1,hcp2,hrng,htail⟩:=hQ.tail
      rw [hqv] at cq0
      have kq:(0:Int) < ((r.length+1:Nat):Int):=by omega
      have q0:wr.cell? ⟨g,o*8,none⟩=some (.int .i64 (e 0)):=hrng 0 _ rfl
      have q1:wr.cell? ⟨g,o*8+1,none⟩=some (.int .i64 (e 1)):=hrng 1 _ rfl
      have q2:wr.cell? ⟨g,o*8+2,none⟩=some (.int .i64 (e 2)):=hrng 2 _ rfl
      have q3:wr.cell? ⟨g,o*8+3,none⟩=some (.int .i64 (e 3)):=hrng 3 _ rfl
      have q4:wr.cell? ⟨g,o*8+4,none⟩=some (.int .i64 (e 4)):=hrng 4 _ rfl
      have q5:wr.cell? ⟨g,o*8+5,none⟩=some (.int .i64 (e 5)):=hrng 5 _ rfl
      have q6:wr.cell? ⟨g,o*8+6,none⟩=some (.int .i64 (e 6)):=hrng 6 _ rfl
      have q7:wr.cell? ⟨g,o*8+7,none⟩=some (.int .i64 (e 7)):=hrng 7 _ rfl
      have HTL:=Lib.hid htail
      have HER:=Lib.hid her
      clear htail hrng hQ her
      go_upto_region 8 with fail
      generalize hW:World.alloc wr _=w1
      have hb1:Below wr.heap.size wr w1:=hW ▸ (Below.refl wr.heap.size wr).alloc (Nat.le_refl _) _
      have IE:=Lib.hid (show P.Img w1 wr.heap.size 8 (i8 e) from hW ▸ Img.mk' (heap_alloc_new wr _) (by kernel_rfl))
      have TE:=Lib.hid (show Typed w1 wr.heap.size 183 from ⟨_,hW ▸ heap_alloc_new wr _⟩)
      have HR4:=Lib.hid (HR3.out.later hb1)
      have HTL1:=Lib.hid (HTL.out.frm (M:=fun _ => False) (Frm.of hb1) (fun _ _ => id))
      have cq1:w1.cell? ⟨D,6+k,none⟩=some (.slice (some ⟨g,o*8,none⟩) (r.length+1) cap):=(hb1.cell (p:=⟨D,6+k,none⟩) (HR3.out.desk.typed.lt)).trans cq0
      have gq1:w1.frozen? ⟨D,6+k,none⟩=false:=HR4.out.desk.img.free (6+k) (by omega)
      have nE:¬ D=wr.heap.size:=by have:=HR3.out.desk.typed.lt; omega
      have HLAST:=Lib.hid (show cap=1→QAt w1 r (.slice (some ⟨g,o*8,none⟩) r.length 0) from fun h1 => by
       subst h1
       have:=HQ2.out
       rw [HER.out,hqv] at this
       exact this.last.frm (M:=fun _ => False) (Frm.of hb1) (fun _ _ => id))
      have HQV:=Lib.hid hqv
      have HER2:=Lib.hid (show cap=1→True from fun _ => trivial)
      clear hb1 hW q0 q1 q2 q3 q4 q5 q6 q7 cq0 cl0 hqv HTL HQ2
      go_cut [51] (fun _ W => ∃ v',RoundAt w D vs qs { hdAt dk k s with q:=upd (hdAt dk k s).q k r } (dn++s.done.map fun t => ((k:Int),t)) (.slice oy L2.length cy) (upd qs2 k v') pls2 L2 W∧Frm (fun b => b=D) w1 W)
      case first =>
       go_region
       go_wp2_with fail
       ·go_meet
        go_light
        exact ⟨_,(HR4.out.tail hk3 (HLAST.out (by omega)) (fun b hb => by rw [HQV.out]; exact hb)).later (Below.refl _ _).drew,(setCell_frm _ _ _ _).trans (Frm.of (Below.refl _ _).drew)⟩
       ·go_meet
        go_light
        exact ⟨_,(HR4.out.tail hk3 (by have:=HTL1.out; rw [show (o+1)*8=o*8+8 by omega] at this; exact this) (fun b hb => by rw [HQV.out]; exact hb)).later (Below.refl _ _).drew,(setCell_frm _ _ _ _).trans (Frm.of (Below.refl _ _).drew)⟩
      case rest =>
       obtain ⟨v',hR5,hF5⟩:=hcut
       obtain ⟨w2,hw2⟩:∃ x,x=wc:=⟨_,rfl⟩; subst hw2
       have HR5:=Lib.hid hR5
       have hws:=hR5.frm.size
       have nW:wr.heap.size < w2.heap.size:=Nat.lt_of_lt_of_le (IE.out.lt (by omega)) hF5.size
       have IE2:=Lib.hid (hF5.img IE.out (by omega) (fun e => nE e.symm))
       have TE2:=Lib.hid (TE.out.frm' hF5 (fun e => nE e.symm))
       have ID2:=Lib.hid hR5.desk.img
       have hch:ChainAt w2 s.c (vs k) (pls2 k):=by have:=hR5.desk.chain k hk3; simp only [hdAt_c] at this; exact this
       have c0:w2.cell? ⟨D,k*2,none⟩=some (vs k):=(hR5.desk.img.cell (k*2) (by omega)).trans (congrArg some (dimg_chain hk3).1)
       have hDs:D < w2.heap.size:=hR5.desk.typed.lt
       have hVT:=typed_row hch.row
       have hVD:(vs k).ownBlock ≠ some D:=fun e => ((hVT D e).ne hR5.desk.typed (by decide)) rfl
       have hVE:(vs k).ownBlock ≠ some wr.heap.size:=fun e => ((hVT _ e).ne TE2.out (by decide)) rfl
       have HVD:=Lib.hid hVD
       have HVE:=Lib.hid hVE
       have hVl:∀ b,(vs k).ownBlock=some b→b < w2.heap.size:=fun b hb => (hVT b hb).lt
       have HVL:=Lib.hid hVl
       have hge:=hR5.noErr hgw HGO.out hk3
       have herr:ErrT w2:=hR5.frm.cell HG.out HGO.out
       have hs8:s.c.l.length≤8:=by rw [← hch.l,List.length_map]; exact hch.short
       have RUN:=fun W (hb:Below w2.heap.size w2 W) => Chain_run (hch.frm (M:=fun _ => False) (Frm.of hb) (fun _ _ => id) (fun _ _ => id)) D (k*2) ((hb.cell (p:=⟨D,k*2,none⟩) hDs).trans c0) hVD e s.time (herr.later hb) hge
       obtain ⟨X,hX⟩:∃ X,hrun e s.time s.c.l .zero=X:=⟨_,rfl⟩
       rw [hX] at RUN
       have HX:=Lib.hid hX
       have n3:¬ wr.heap.size=w2.heap.size:=by omega
       have n4:¬ D=w2.heap.size:=by omega
       obtain ⟨l',sd⟩:=X
       simp only at RUN
       unfold t8 at RUN
       have HRUN:=Lib.hid RUN
       clear RUN hX hR5 hF5 hch c0 hVD hVE hVT hVl hge herr IE TE HR4 cq1 gq1
       go_upto_region 9 with fail
       go_cut [6] (fun y W => ∃ (m:Nat) (out:Value) (pl5:List (HP × Value)),y=.pointer (some ⟨m,0,none⟩)∧w2.heap.size≤m∧P.Img W m 4 (i4 sd.by_ sd.num out sd.steps)∧W.ownsRow w2.heap.size 2 1 out sd.out.length (sd.out.map (Value.int .i64))∧ChainAt W ⟨l',s.c.next⟩ (vs k) pl5∧Frm (fun b => (vs k).ownBlock=some b) w2 W)
       case first =>
        go_region_held3 (fun W => W.cell? ⟨wr.heap.size,0,none⟩=some (.int .i64 (e 0))∧W.cell? ⟨wr.heap.size,1,none⟩=some (.int .i64 (e 1))∧W.cell? ⟨wr.heap.size,2,none⟩=some (.int .i64 (e 2))∧W.cell? ⟨wr.heap.size,3,none⟩=some (.int .i64 (e 3))∧W.cell? ⟨wr.heap.size,4,none⟩=some (.int .i64 (e 4))∧W.cell? ⟨wr.heap.size,5,none⟩=some (.int .i64 (e 5))∧W.cell? ⟨wr.heap.size,6,none⟩=some (.int .i64 (e 6))∧W.cell? ⟨wr.heap.size,7,none⟩=some (.int .i64 (e 7))∧W.cell? ⟨D,15,none⟩=some (.int .i64 s.time))
         (first | exact roundS IE2.out ID2.out | exact roundS (IE2.out.alloc _) (ID2.out.alloc _) | exact roundS IE5.out ID5.out | exact roundS (IE5.out.alloc _) (ID5.out.alloc _) | exact roundS (himg_apart (IE5.out.alloc _) n1) (himg_apart (ID5.out.alloc _) n2) | exact roundS (himg_apart IE5.out n3) (himg_apart ID5.out n4))
         (first
          | (go_at_call 47; refine (HRUN.out _ ?_).mono ?_; (repeat' (first | with_reducible exact Below.refl _ _ | with_reducible refine Below.drew ?_ | with_reducible refine Below.alloc ?_ ?_ _ | (simp; done) | omega)); rintro e5 w5 ⟨out,pl5,he5,hrow5,hch5,hf5⟩; obtain ⟨og5,cap5,rfl⟩:=own_form hrow5; obtain ⟨arr,harr0⟩:∃ arr:Array Value,(#[.int .i64 sd.by_,.int .i64 sd.num,.slice og5 sd.out.length cap5,.int .i64 sd.steps]:Array Value)=arr:=⟨_,rfl⟩; rw [harr0] at he5; subst he5; have harr:arr.toList=[.int .i64 sd.by_,.int .i64 sd.num,.slice og5 sd.out.length cap5,.int .i64 sd.steps]:=(by rw [← harr0]); clear harr0; have HARR:=Lib.hid harr; have hsz:arr.size=4:=(by rw [← Array.length_toList,harr]; rfl); have hone:∀ v ∈ arr.toList,v.oneCell'=true:=(by rw [harr]; exact said_one _ _ _ _ _ _); have hstA:=hstore (P:=Tryz.prog) (w:=w5.alloc (.cells #[.int .i64 0,.int .i64 0,.slice none 0 0,.int .i64 0] 103)) (b:=w5.heap.size) (arr:=arr) (by rw [hsz]; exact hthere_new rfl) hone; clear harr; have hF:Frm (fun b => (vs k).ownBlock=some b) w2 w5:=Frm.trans (Frm.of (by repeat' (first | with_reducible exact Below.refl _ _ | with_reducible refine Below.drew ?_ | with_reducible refine Below.alloc ?_ ?_ _ | (simp; done) | omega))) hf5; have HF5:=Lib.hid hF; have HROW5:=Lib.hid (World.ownsRow.mono (base':=w2.heap.size) hrow5 (by first | exact Nat.le_refl _ | (simp; done) | (simp; omega))); have HCH5:=Lib.hid hch5; have IE5:=Lib.hid (hF.img IE2.out (by omega) HVE.out); have ID5:=Lib.hid (hF.img ID2.out (by omega) HVD.out); have hz5:=hF.size; (try have HTH:=Lib.hid (there_frm (hthere_drew (w:=w2) (t:=103) (c:=#[.int .i64 0,.int .i64 0,.slice none 0 0,.int .i64 0]) (n:=4) rfl) hf5 (fun h => by have:=HVL.out _ h; omega) (by simp)); have hstB:=hstore (P:=Tryz.prog) (w:=w5) (b:=w2.heap.size) (arr:=arr) (by rw [hsz]; exact HTH.out) hone; have HTY:=Lib.hid (show Typed w5 w2.heap.size 103 from ⟨_,(hf5.block w2.heap.size (by simp) (fun h => by have:=HVL.out _ h; omega)).trans (heap_alloc_new w2 _)⟩)); have n1:¬ wr.heap.size=w5.heap.size:=(by omega); have n2:¬ D=w5.heap.size:=(by omega); clear hF hch5 hf5 hrow5))
        ·go_wp2_with fail
         go_meet
         go_light
         obtain ⟨x1,x2,x3⟩:=said_end (W:=(w5.alloc (.cells #[.int .i64 0,.int .i64 0,.slice none 0 0,.int .i64 0] 103)).setCells w5.heap.size 0 arr.toList) (m:=w5.heap.size) HF5.out HROW5.out HCH5.out (((Frm.of ((Below.refl w5.heap.size w5).alloc (Nat.le_refl _) _) (M:=fun b => b=w5.heap.size))).trans (frm_setCells _ _ _ _)) hz5 HVL.out (fun b hb => by have:=(HROW5.out.lt b hb).2; omega) (fun b hb => by have:=hb.lt; omega)
         refine ⟨w5.heap.size,_,pl5,rfl,hz5,?_,x1,x2,x3⟩
         have:=himg_put (w:=w5.alloc (.cells #[.int .i64 0,.int .i64 0,.slice none 0 0,.int .i64 0] 103)) (b:=w5.heap.size) (vs:=arr.toList) (by rw [HARR.out]; exact hthere_new rfl)
         rw [HARR.out] at this ⊢
         exact this
        ·go_wp2_with fail
         go_meet
         go_light
         obtain ⟨x1,x2,x3⟩:=said_end (W:=w5.setCells w2.heap.size 0 arr.toList) (m:=w2.heap.size) HF5.out HROW5.out HCH5.out (frm_setCells _ _ _ _) (Nat.le_refl _) HVL.out (fun b hb => (typed_row HROW5.out b hb).ne HTY.out (by decide)) (fun b hb => hb.ne HTY.out (by decide))
         refine ⟨w2.heap.size,_,pl5,rfl,Nat.le_refl _,?_,x1,x2,x3⟩
         have:=himg_put (w:=w5) (b:=w2.heap.size) (vs:=arr.toList) (by rw [HARR.out]; exact HTH.out)
         rw [HARR.out] at this ⊢
         exact this
       case rest =>
        obtain ⟨m,out,pl5,rfl,hm,IM,hrow,hch,hf⟩:=hcut
        obtain ⟨w3,hw3⟩:∃ x,x=wc:=⟨_,rfl⟩; subst hw3
        obtain ⟨oo,co,rfl⟩:=own_form hrow
        have hR6:=HR5.out.ran hk3 hf hch (by show s.c.next=((hdAt dk k s).c k).next; rw [hdAt_c])
        have ct:w3.cell? ⟨D,15,none⟩=some (.int .i64 s.time):=hR6.desk.img.cell 15 (by omega)
        have gt:w3.frozen? ⟨D,15,none⟩=false:=hR6.desk.img.free 15 (by omega)
        have hst:=hrun_steps e s.time s.c.l .zero
        rw [HX.out] at hst
        have z0:Sd.zero.steps=0:=rfl
        rw [z0] at hst
        simp only at hst
        have hSt:=HS.out.time
        rw [HER.out,List.length_cons] at hSt
        have hSs:=HS.out.since
        have hSl:=HS.out.lo
        have hSh:=HS.out.hi
        have hw1:IntKind.i64.wrap (s.time+1)=s.time+1:=by rw [IntKind.wrap_i64]; omega
        have hmD:¬ m=D:=by omega
        have HR6:=Lib.hid hR6
        have HROW6:=Lib.hid hrow
        have IM6:=Lib.hid IM
        have hD3:D < w3.heap.size:=hR6.desk.typed.lt
        clear hR6 hrow hch hf IM HRUN HR5 HLAST HQV HTL1 HVD HVE HVL IE2 TE2 ID2
        go_upto_region 11 with fail
        clear ct gt hw1
        have hR7:=HR6.out.time (s.time+1)
        have hF7:=setCell_frm w3 D 15 (.int .i64 (s.time+1))
        have hI7:=hF7.img IM6.out (by omega) hmD
        have hW7:=hF7.row HROW6.out (fun b hb e => by have:=(HROW6.out.lt b hb).1; omega)
        generalize World.setCell w3 _ _=w4 at hR7 hF7 hI7 hW7 ⊢
        have cl4:w4.cell? ⟨D,12+k,none⟩=some (.int .i64 s.left):=(hR7.desk.img.cell (12+k) (by omega)).trans (congrArg some ((dimg_left hk3).trans (by show Value.int .i64 ((hdAt dk k s).left k)=_; rw [hdAt_left])))
        have gl4:=hR7.desk.img.free (12+k) (by omega)
        have cm3:w4.cell? ⟨m,3,none⟩=some (.int .i64 sd.steps):=hI7.cell 3 (by omega)
        have hw2:IntKind.i64.wrap (sd.steps+1)=sd.steps+1:=by rw [IntKind.wrap_i64]; omega
        have hw3:IntKind.i64.wrap (s.left - (sd.steps+1))=s.left - (sd.steps+1):=by rw [IntKind.wrap_i64]; omega
        have HR7:=Lib.hid hR7
        have HROW7:=Lib.hid hW7
        have IM7:=Lib.hid hI7
        have hz7:=hF7.size
        clear hR7 hF7 hI7 hW7 HR6 HROW6 IM6
        go_cut [82] (fun _ W => RoundAt w D vs qs (hdAt dk k (s.one e r)) (dn++s.done.map fun t => ((k:Int),t)) (.slice oy L2.length cy) (upd qs2 k v') (upd pls2 k pl5) L2 W∧Frm (fun b => b=D) w4 W)
        case first =>
         go_region
         go_wp2_with fail
         go_meet
         go_light
         have:=(HR7.out.left hk3 (s.left - (sd.steps+1))).later (Below.refl _ _).drew
         refine ⟨?_,(setCell_frm _ _ _ _).trans (Frm.of (Below.refl _ _).drew)⟩
         rw [← hdAt_one,HX.out]
         exact this
        case rest =>
         obtain ⟨hR8,hF8⟩:=hcut
         obtain ⟨w5,hw5⟩:∃ x,x=wc:=⟨_,rfl⟩; subst hw5
         have hI8:=hF8.img IM7.out (by omega) hmD
         have hW8:=hF8.row HROW7.out (fun b hb e => by have:=(HROW7.out.lt b hb).1; omega)
         have x0:w5.cell? ⟨m,0,none⟩=some (.int .i64 sd.by_):=hI8.cell 0 (by omega)
         have x1:w5.cell? ⟨m,1,none⟩=some (.int .i64 sd.num):=hI8.cell 1 (by omega)
         have x2:w5.cell? ⟨m,2,none⟩=some (.slice oo sd.out.length co):=hI8.cell 2 (by omega)
         have x3:w5.cell? ⟨m,3,none⟩=some (.int .i64 sd.steps):=hI8.cell 3 (by omega)
         have hll:=HLL.out
         have hfw:=HFW.out
         have hL60:L2.length≤80:=by omega
         have hbA:Below w5.heap.size w5 (w5.alloc (.cells #[.int .i64 k,.int .i64 sd.by_,.int .i64 sd.num,.slice oo sd.out.length co,.int .i64 sd.steps] 105)):=(Below.refl w5.heap.size w5).alloc (Nat.le_refl _) _
         have hR9:=hR8.later hbA
         obtain ⟨v9,w9,hap,hd9,hg9⟩:=done_append w.heap.size L2 (.slice oy L2.length cy) ((k:Int),sd,.slice oo sd.out.length co) w5.heap.size 1 _ (Nat.le_trans hR8.frm.size hbA.size) hR9.dones
          (World.ownsRow.mono (row_later hW8 hbA) (hws)) (fun j u hj => (cell_of_row _ w5.heap.size j _ _ (0,0) (heap_alloc_new w5 _)).trans (by simpa [done5] using hj)) (by omega)
         obtain ⟨og9,cap9,rfl⟩:=own_form hd9.row
         have hR10:=hR9.add hd9 hg9
         have HR10:=Lib.hid hR10
         have HAP:=Lib.hid hap
         have HS1:=Lib.hid (HS.out.one HER.out hc2 hs8)
         clear hll hfw hR8 hF8 hI8 hW8 hbA hR9 hd9 hg9 hR10 hap HR7 HROW7 IM7 hw2 hw3 cl4 gl4 cm3
         go_wp2_with (at_builtin; refine wpList_append_by _ rfl _ _ 100 100 rfl _ _ rfl rfl HAP.out ?_)
         refine ⟨⟨s.one e r,upd qs2 k v',upd pls2 k pl5,L2++[((k:Int),sd,.slice oo sd.out.length co)],HS1.out,?_⟩,?_⟩
         ·have hl:dn++((s.one e r).done.map fun t => ((k:Int),t))=dn++(s.done.map fun t => ((k:Int),t))++[((k:Int),sd)]:=by unfold P.HS.one; rw [HX.out]; simp
          rw [hl]
          have:=HR10.out
          rw [List.length_append] at this
          exact this
         ·show 100 - (L2.length+1) < 100 - L2.length
          omega
     ·have hstop:s.q=[] ∨ ¬ 0 < s.left:=by
       by_cases h1:0 < s.q.length
       ·exact .inr fun h2 => hc ⟨h1,h2⟩
       ·exact .inl (List.eq_nil_of_length_eq_zero (by omega))
      have hT:=(drain_stop hstop).symm.trans HS.out.drain
      have HDONE:=Lib.hid (show dn++(s.done.map fun t => ((k:Int),t))=dn++dk.doneOf k by rw [hT]; rfl)
      have HEND:=Lib.hid (show ({ hdAt dk k s with left:=upd (hdAt dk k s).left k s.rest }:HD)=dk.after k by rw [hT]; exact hdAt_end dk k)
      obtain ⟨oq,cq,hqv⟩:=HQ2.out.form
      rw [hqv] at cq0
      by_cases h0:s.q=[]
      ·have hrest:s.rest=min s.left 0:=by unfold P.HS.rest; rw [if_pos h0]
       have HREST:=Lib.hid hrest
       rw [h0,List.length_nil] at cq0
       have gl0:=HR3.out.desk.img.free (12+k) (by omega)
       clear hstop hT hc hqv hrest
       go_upto_region 14 with fail
       go_region
       go_wp2_with fail
       refine ⟨⟨k+1,qs2,pls2,L2,by omega,by go_num,?_⟩,?_⟩
       ·have:=(HR3.out.left hk3 s.rest).later (Below.refl _ _).drew
        rw [HEND.out,HDONE.out,HREST.out] at this
        rw [HE.out.1,HE.out.2]
        exact this
       ·show 3 - ((k:Int)+1).toNat < 3 - (k:Int).toNat
        omega
      ·have hrest:s.rest=s.left:=by unfold P.HS.rest; rw [if_neg h0]
       have hq1:0 < s.q.length:=by
        cases hx:s.q with
        | nil => exact absurd hx h0
        | cons e r => simp
       have hl0:¬ 0 < s.left:=fun h2 => hc ⟨hq1,h2⟩
       have HK:=Lib.hid (hdAt_keep dk k s (.inr trivial) hrest)
       have kq1:(0:Int) < (s.q.length:Int):=by omega
       have kq2:¬ (s.q.length:Int)=0:=by omega
       clear hstop hT hc hqv hrest
       go_wp2_with fail
       refine ⟨⟨k+1,qs2,pls2,L2,by omega,by go_num,?_⟩,?_⟩
       ·have:=HR3.out
        rw [← HK.out,HEND.out,HDONE.out] at this
        rw [HE.out.1,HE.out.2]
        exact this
       ·show 3 - ((k:Int)+1).toNat < 3 - (k:Int).toNat
        omega
  ·obtain rfl:k=3:=by omega
   go_wp2_with fail
   go_ret
   exact ⟨_,qs',pls',L,rfl,by rw [← hdAfters_three,← hdDones_three]; exact HR.out⟩
end Go.Proofs.YtpdlmbbgioenoaaGreatDoor.W
namespace Go.Proofs.YtpdlmbbgioenoaaGreatDoor.W
open Go.RowKit Go.Proofs.YtpdlmbbgioenoaaGreatDoor.P
def hfind (l:List HP) (id:Int):Nat:=l.findIdx fun p => p.id == id
set_option maxHeartbeats 4000000 in
theorem Match_any (x:HP × Value) (hv:∃ og n c,x.2=.slice og n c) (b:Nat) (id:Int) (w:World) (h:w.cell? ⟨b,0,none⟩=some (.int .i64 id)) :
  Calls Tryz.prog 82 #[.agg (pcells x).toArray,.pointer (some ⟨b,0,none⟩)] w fun e w' => e=.returned (.bool (decide (x.1.id=id)))∧Below w.heap.size w w':=by
 obtain ⟨og,n,c,hv⟩:=hv
 obtain ⟨xp,xv⟩:=x
 simp only at hv
 subst hv
 unfold pcells p19
 simp only
 have hb:=block_lt_of_cell h
 go_enter Tryz.func82,Tryz.ntmps82
 go_wp2_with fail
 go_ret
 exact ⟨rfl,(Below.refl _ _).alloc (Nat.le_refl _) _⟩
set_option maxHeartbeats 8000000 in
theorem Index_any (l:List (HP × Value)) (v:Value) (id:Int) (hl:l.length≤8) (b:Nat) (w:World) (hrow:w.ownsRow 0 134 19 v l.length (rowsV l)) (hcode:∀ x ∈ l,∃ og n c,x.2=.slice og n c) (hb:w.cell? ⟨b,0,none⟩=some (.int .i64 id)) (hf:hfind (l.map (·.1)) id < l.length) :
  Calls Tryz.prog 81 #[v,Value.func (.func 82) #[] #[.pointer (some ⟨b,0,none⟩)]] w fun e w' => e=.returned (.int .i64 (hfind (l.map (·.1)) id))∧Below w.heap.size w w':=by
 obtain ⟨og,cap,rfl⟩:=own_form hrow
 generalize hn:l.length=n at hl hrow hf ⊢
 have HROW:=Lib.hid hrow
 have HC:=Lib.hid hcode
 have HB:=Lib.hid hb
 have hbl:=block_lt_of_cell hb
 obtain ⟨g,rfl⟩:∃ g,og=some ⟨g,0,none⟩:=by
  rcases hrow.2 with ⟨h0,h1⟩ | ⟨g,cap',cur,h0,_⟩
  ·omega
  ·injection h0 with h0; exact ⟨g,h0⟩
 have hgl:g < w.heap.size:=(hrow.lt g rfl).2
 have HF:=Lib.hid hf
 clear hrow hcode hb hf
 go_enter Tryz.func81,Tryz.ntmps81
 go_wp2_with fail
 go_loopw [8] (fun x wr => ∃ a:Nat,x=.int .i64 a∧a < n∧a≤hfind (l.map (·.1)) id∧Below w.heap.size w wr) (fun x _ => n - (intOf x).toNat)
 case atStart => exact ⟨0,rfl,by have:=HF.out; omega,Nat.zero_le _,Below.refl _ _⟩
 case round =>
  obtain ⟨a,rfl,han,hah,hB⟩:=hrel
  have HBr:=Lib.hid hB
  have h1:(a:Int) < n:=by omega
  obtain ⟨x,hx⟩:∃ x,l[a]?=some x:=⟨_,List.getElem?_eq_getElem (by omega)⟩
  have hx1:(l.map (·.1))[a]?=some x.1:=by simp [hx]
  have hr:=row_range HROW.out hx
  have HR:=Lib.hid (show wr.rangeAt g (a*19) (pcells x) from fun j u hj => (HBr.out.cell (p:=⟨g,a*19+j,none⟩) hgl).trans (hr j u hj))
  have HB1:=Lib.hid ((hB.cell (p:=⟨b,0,none⟩) hbl).trans HB.out)
  clear hr hB
  go_wp2_with (first | (with_reducible refine wpList_load_row (by simp [go_sem]; done) 134 (.tmp 14) rfl g (a*19) (by simp [go_sem]; done) (pcells x) _ HR.out Tryz.underlying134 rfl (sizeCells x) ?_))
  refine (Match_any x (HC.out x (List.mem_of_getElem? hx)) b id _ HB1.out).mono ?_
  rintro e w1 ⟨rfl,hb1⟩
  have HB2:=Lib.hid (HBr.out.trans (hb1.mono HBr.out.size))
  clear hb1
  by_cases hk:x.1.id=id
  ·rw [decide_eq_true hk]
   have he:hfind (l.map (·.1)) id=a:=by
    have hle:a < (l.map (·.1)).length:=by simp; omega
    refine Nat.le_antisymm (Nat.le_of_not_lt fun hlt => ?_) hah
    have:=List.not_of_lt_findIdx hlt
    rw [List.getElem?_eq_getElem hle] at hx1
    injection hx1 with hx1
    rw [hx1] at this
    simp [hk] at this
   go_wp2_with fail
   refine bodyPost_ret (v:=.int .i64 a) (by simp [results,Tryz.results81,go_sem]) rfl ⟨by rw [he],HB2.out⟩
  ·rw [decide_eq_false hk]
   have he:hfind (l.map (·.1)) id ≠ a:=fun e => by
    have hlt:(l.map (·.1)).findIdx (fun p => p.id == id) < (l.map (·.1)).length:=by have h1:=HF.out; unfold hfind at h1; rw [List.length_map]; omega
    have:=List.findIdx_getElem (w:=hlt)
    have e2:(l.map (·.1)).findIdx (fun p => p.id == id)=a:=e
    rw [List.getElem?_eq_getElem (by rw [← e2]; exact hlt)] at hx1
    injection hx1 with hx1
    simp only [e2,hx1] at this
    exact hk (by simpa using this)
   go_wp2_with fail
   go_roundw
   case rel => exact ⟨a+1,by simp,by have:=HF.out; omega,by omega,HB2.out⟩
   case measure => simp [intOf]; omega
set_option maxHeartbeats 8000000 in
theorem Find_in {w:World} {c:HC} {v:Value} {pl:List (HP × Value)} (hc:ChainAt w c v pl) (D o:Nat) (c0:w.cell? ⟨D,o,none⟩=some v) (id:Int) (hf:hfind c.l id < pl.length) :
  Calls Tryz.prog 49 #[.pointer (some ⟨D,o,none⟩),.int .i64 id] w fun e w' => e=.returned (.int .i64 (hfind c.l id))∧Below w.heap.size w w':=by
 obtain ⟨og,cap,hv⟩:=own_form hc.row
 have hDl:D < w.heap.size:=block_lt_of_cell c0
 subst hv
 rw [← hc.l] at hf ⊢
 have HC:=Lib.hid hc
 have HF:=Lib.hid hf
 clear hc hf
 go_enter Tryz.func49,Tryz.ntmps49
 go_wp2_with fail
 refine (Index_any pl _ id HC.out.short w.heap.size _ (row_later HC.out.row ((Below.refl _ _).alloc (Nat.le_refl _) _)) (fun x hx => by obtain ⟨a,b,h⟩:=own_form (HC.out.code x hx); exact ⟨a,_,b,h⟩) (cell_of_row _ w.heap.size 0 _ _ (0,0) (heap_alloc_new w _)) HF.out).mono ?_
 rintro e w1 ⟨rfl,hb⟩
 have HB:=Lib.hid (((Below.refl w.heap.size w).alloc (Nat.le_refl _) _).trans (hb.mono (by simp)))
 clear hb
 go_wp2_with fail
 go_ret
 exact ⟨rfl,HB.out⟩
set_option maxHeartbeats 8000000 in
theorem Cells_in {w:World} {c:HC} {v:Value} {pl:List (HP × Value)} (hc:ChainAt w c v pl) (D o:Nat) (c0:w.cell? ⟨D,o,none⟩=some v) (id:Int) {p:HP} (hf:c.l[hfind c.l id]?=some p) :
  Calls Tryz.prog 18 #[.pointer (some ⟨D,o,none⟩),.int .i64 id] w fun e w' => e=.returned (.tuple #[.agg (tab16 p.cells).toArray,.nilIface])∧Below w.heap.size w w':=by
 obtain ⟨og,cap,hv⟩:=own_form hc.row
 have hDl:D < w.heap.size:=block_lt_of_cell c0
 subst hv
 obtain ⟨i,hi⟩:∃ i,hfind c.l id=i:=⟨_,rfl⟩
 have hfl:hfind c.l id < pl.length:=by
  have:=(List.getElem?_eq_some_iff.1 hf).1
  have e:=congrArg List.length hc.l
  simp at e; omega
 have hil:i < pl.length:=by rw [← hi]; exact hfl
 obtain ⟨x,hx⟩:∃ x,pl[i]?=some x:=⟨_,List.getElem?_eq_getElem hil⟩
 have hxp:x.1=p:=by
  rw [hi,← hc.l,List.getElem?_map,hx] at hf
  exact Option.some.inj hf
 subst hxp
 obtain ⟨g,rfl⟩:∃ g,og=some ⟨g,0,none⟩:=by
  rcases hc.row.2 with ⟨h0,h1⟩ | ⟨g,cap',cur,h0,_⟩
  ·omega
  ·injection h0 with h0; exact ⟨g,h0⟩
 have hgl:g < w.heap.size:=(hc.row.lt g rfl).2
 have hr:=row_range hc.row hx
 have hrt:w.rangeAt g (i*19+3) (tab16 x.1.cells):=fun j u hj => by
  have:=hr (3+j) u (by rw [pcells_split,List.getElem?_append_right (by simp)]; simpa using hj)
  rwa [← Nat.add_assoc] at this
 have ilt:(i:Int) < pl.length:=by omega
 have i0:¬ (i:Int) < 0:=by omega
 have hl8:=hc.short
 generalize hn:pl.length=n at *
 have HC:=Lib.hid hc
 have HF:=Lib.hid hfl
 have HRT:=Lib.hid hrt
 have HI:=Lib.hid hi
 have HN:=Lib.hid hn
 clear hc hfl hf hr hrt hi hn
 go_enter Tryz.func18,Tryz.ntmps18
 go_wp2_with fail
 generalize hW:World.alloc w _=w1
 have hb1:Below w.heap.size w w1:=hW ▸ (Below.refl w.heap.size w).alloc (Nat.le_refl _) _
 have c01:=(hb1.cell (p:=⟨D,o,none⟩) hDl).trans c0
 refine (Find_in (HC.out.frm (Frm.of hb1 (M:=fun _ => False)) (fun _ _ h => h) (fun _ _ h => h)) D o c01 id (by rw [HN.out]; exact HF.out)).mono ?_
 rintro e w2 ⟨rfl,hb⟩
 rw [HI.out]
 have hb2:=hb1.trans (hb.mono hb1.size)
 have c02:=(hb2.cell (p:=⟨D,o,none⟩) hDl).trans c0
 have hth:w1.there w.heap.size 0 16:=hW ▸ hthere_new rfl
 have hth2:=there_later hth hb (by rw [← hW]; simp)
 have hst:=hstore (P:=Tryz.prog) (w:=w2) (b:=w.heap.size) (arr:=(tab16 x.1.cells).toArray) (show w2.there w.heap.size 0 16 from hth2) (tab16_ones _)
 have HR2:=Lib.hid (range_later HRT.out hb2 hgl)
 have HT2:=Lib.hid hth2
 have HB2:=Lib.hid hb2
 clear hb hb1 hb2 hth hth2 hW c01
 go_wp2_with (first | (with_reducible refine wpList_load_row (by simp [go_sem]; done) 55 (.tmp 20) rfl g (i*19+3) (by simp [go_sem]; done) (tab16 x.1.cells) _ HR2.out Tryz.underlying55 rfl (size_tab16 _) ?_))
 refine bodyPost_ret (results_cell_tmp Tryz.results18 (p:=⟨w.heap.size,0,none⟩) (v:=.agg (tab16 x.1.cells).toArray) (u:=.nilIface) (by simp [go_sem]) (by simp [go_sem]) ?_) rfl ⟨rfl,?_⟩
 ·exact run_loadVar_mid _ w.heap.size 0 _ (tab16 x.1.cells) _ (World.rangeAt_setCells_same w2 w.heap.size 0 (tab16 x.1.cells) (show w2.there w.heap.size 0 16 from HT2.out)) Tryz.underlying55 rfl (size_tab16 _)
 ·exact HB2.out.trans ((frm_setCells w.heap.size _ 0 w2).below HB2.out.size (fun k e => by omega))
end Go.Proofs.YtpdlmbbgioenoaaGreatDoor.W
namespace Go.Proofs.YtpdlmbbgioenoaaGreatDoor.P
def tHook:List UInt8:=[109,111,118,32,114,49,32,48,59,32,99,97,108,108,32,102,105,110,100,59,32,106,101,113,32,114,48,32,48,32,51,59,32,108,111,97,100,32,114,50,32,91,114,48,43,48,93,59,32,97,100,100,32,114,50,32,49,59,32,115,116,111,114,101,32,91,114,48,43,48,93,32,114,50,59,32,109,111,118,32,114,48,32,48,59,32,101,120,105,116]
def pHook:List Step:=[⟨1,1,0,false,0,0⟩,⟨27,0,0,false,0,1⟩,⟨15,0,0,false,3,0⟩,⟨25,2,0,false,0,0⟩,⟨2,2,0,false,0,1⟩,⟨26,0,2,true,0,0⟩,⟨1,0,0,false,0,0⟩,⟨28,0,0,false,0,0⟩]
theorem words_hook:pHook.map words=[[nm 1,[114,49],[48]],[nm 27,cl 1],[nm 15,[114,48],[48],[51]],[nm 25,[114,50],[91,114,48,43,48,93]],[nm 2,[114,50],[49]],[nm 26,[91,114,48,43,48,93],[114,50]],[nm 1,[114,48],[48]],[nm 28]]:=by
 simp only [pHook,List.map_cons,List.map_nil,wd_load,wd_store,wd_call,wd_ask (c:=15) ⟨by decide,by decide⟩,wd_make (c:=1) (by decide),wd_make (c:=2) (by decide),wd_exit,plc,rg,sec,num_0,num_1,num_2,num_3,num_8]
 rfl
theorem ok_hook:∀ t ∈ pHook,t.wrong=0∧In64 t.off∧In64 t.num:=by
 intro t ht
 simp only [pHook,List.mem_cons,List.not_mem_nil,or_false] at ht
 rcases ht with rfl | rfl | rfl | rfl | rfl | rfl | rfl | rfl
 all_goals exact ⟨by decide,in_small (by decide) (by decide),in_small (by decide) (by decide)⟩
theorem rread_hook:rread tHook=((0,-1),pHook):=rread_by (by rw [words_hook]; decide) ok_hook (by decide)
def dH0:HD:=HD.zero fun _ => 5
def dH1:HD:=dH0.attach 1 pHook 3
def dH2:HD:=dH1.event 1 fun _ => 0
def dH3:HD:=dH2.event 1 fun _ => 0
theorem dH_attach:((dH0.c 1).attach pHook 3).2.1=1∧((dH0.c 1).attach pHook 3).2.2.1=0:=by decide +kernel
theorem dH_len:(dH1.q 1).length=0∧(dH2.q 1).length=1:=by decide +kernel
theorem dH_done:∃ x,dH3.done=[x]∧x.2.steps=8:=by
 have h:(match dH3.done with | [x] => x.2.steps == 8 | _ => false)=true:=by decide +kernel
 generalize dH3.done=r at h ⊢
 match r,h with
 | [x],h => exact ⟨x,rfl,by simpa using h⟩
theorem dH_cells:∃ p,((dH3.round.c 1).l)[(dH3.round.c 1).l.findIdx fun p => p.id == 1]?=some p∧p.cells 0=1:=by
 have h:(match ((dH3.round.c 1).l)[(dH3.round.c 1).l.findIdx fun p => p.id == 1]? with | some p => p.cells 0 == 1 | none => false)=true:=by decide +kernel
 generalize ((dH3.round.c 1).l)[(dH3.round.c 1).l.findIdx fun p => p.id == 1]?=r at h ⊢
 match r,h with
 | some p,h => exact ⟨p,rfl,by simpa using h⟩
theorem dH_rest:(dH3.round.q 1).length=1∧dH3.round.left 1=-4:=by decide +kernel
theorem dH_small:(∀ k,k < 3→dH3.left k=0)∧dH3.may=(fun _ => 5)∧dH3.time=0∧∀ k,k < 3→(dH3.q k).length≤20:=by
 refine ⟨fun k _ => rfl,rfl,rfl,?_⟩
 decide +kernel
theorem dH_next:(dH0.c 1).next=0:=rfl
end Go.Proofs.YtpdlmbbgioenoaaGreatDoor.P
namespace Go.Proofs.YtpdlmbbgioenoaaGreatDoor.W
open Go.RowKit Go.Proofs.YtpdlmbbgioenoaaGreatDoor.P
theorem dones_form {w:World} {B:Nat} {L:List (Int × Sd × Value)} {x:Int × Sd × Value} {v:Value} (h:DonesAt w B L v) {i:Nat} (hi:L[i]?=some x):∃ g cap,v=.slice (some ⟨g,0,none⟩) L.length cap∧g < w.heap.size∧w.rangeAt g (i*5) (done5 x):=by
 have hil:=(List.getElem?_eq_some_iff.1 hi).1
 obtain ⟨og,cap,rfl⟩:=own_form h.row
 obtain ⟨g,rfl⟩:∃ g,og=some ⟨g,0,none⟩:=by
  rcases h.row.2 with ⟨h0,h1⟩ | ⟨g,cap',cur,h0,_⟩
  ·omega
  ·injection h0 with h0; exact ⟨g,h0⟩
 refine ⟨g,cap,rfl,(h.row.lt g rfl).2,fun j u hu => ?_⟩
 have hj:j < 5:=by have:=(List.getElem?_eq_some_iff.1 hu).1; rwa [done5_len] at this
 have:=h.row.cells (g:=g) rfl (i*5+j) u (by rw [fm_at done5_len L i j x hi hj]; exact hu)
 have hadd:∀ k,(⟨g,0,none⟩:Addr).add k=⟨g,k,none⟩:=fun k => by unfold Addr.add; split <;> simp_all
 rwa [hadd] at this
set_option maxHeartbeats 100000000 in
theorem Hooked_yes (w:World) (h:RTabs w) (hg:ErrT w):Calls Tryz.prog 33 #[] w fun e w' => e=.returned (.bool true)∧Below w.heap.size w w':=by
 have H:=Lib.hid h
 have HG:=Lib.hid hg
 have hgw:4 < w.heap.size:=block_lt_of_cell hg
 clear h hg
 go_enter Tryz.func33,Tryz.ntmps33
 go_wp2_with fail
 refine (NRead_any tHook (by decide) _ H.out HG.out).mono ?_
 rintro e w1 ⟨v,er,rfl,he,hrow,hb⟩
 rw [rread_hook] at he hrow
 obtain rfl:=rerr_nil he
 obtain ⟨og,cap,rfl,hcap,hcs⟩:=row_got (n:=8) (L:=pHook) rfl hrow
 have HB1:=Lib.hid hb
 have hcode:∀ a,og=some a→a.block < w1.heap.size:=fun a ha => by
  obtain ⟨a',ha',hc⟩:=hcs (by omega)
  rw [ha] at ha'
  cases ha'
  exact block_lt_of_cell (hc 0 (by omega)).1
 have HC1:=Lib.hid (show ProgAt w1 og (nth pHook) 8 from fun h => hcs h)
 clear he hrow hb hcs
 go_wp2_with fail
 refine (New_ok (fun _ => 5) (fun k _ => ⟨by decide,by decide⟩) _).mono ?_
 rintro e w2 ⟨D,rfl,hD,hd,hb⟩
 have HB2:=Lib.hid (HB1.out.trans (hb.mono HB1.out.size))
 have HD2:=Lib.hid (show DeskAt w2 D dH0 _ _ _ from hd)
 have HC2:=Lib.hid (HC1.out.later hb)
 have hown0:∀ b,Owns D (fun _ => .slice none 0 0) (fun _ => .slice none 0 0) b→w1.heap.size≤b:=fun b hb => by
  rcases hb with rfl | ⟨k,_,hb | hb⟩
  ·exact hD
  ·cases hb
  ·cases hb
 have HO2:=Lib.hid hown0
 have hz1:=HB1.out.size
 have hz2:=hb.size
 clear hb hd HC1 hown0
 go_wp2_with fail
 refine (show Calls Tryz.prog 14 #[.pointer (some ⟨D,0,none⟩),.int .i64 1] w2 fun e w' => e=.returned (.tuple #[.pointer (some ⟨D,2,none⟩),.nilIface])∧w'=w2 from Chain_in HD2.out 1 (by omega)).mono ?_
 rintro e w2 ⟨rfl,rfl⟩
 go_wp2_with fail
 refine (show Calls Tryz.prog 36 #[.pointer (some ⟨D,2,none⟩),.slice og 8 cap,.int .i64 3] w2 _ from Attach_any HD2.out 1 (by omega) og cap pHook 3 hcap HC2.out (fun a ha e => by have:=HO2.out _ e; have:=hcode a ha; omega) (fun j hj => nth_in ok_hook hj) (HG.out.later HB2.out) ⟨by rw [dH_next]; decide,by rw [dH_next]; decide⟩).mono ?_
 rintro e w3 ⟨⟨er,rfl,he⟩,vs3,pls3,hd3,hf3,ho3⟩
 rw [dH_attach.1]
 rw [dH_attach.2] at he
 obtain rfl:=rerr_nil he
 have HO3:=Lib.hid (show ∀ b,Owns D vs3 (fun _ => .slice none 0 0) b→w1.heap.size≤b from fun b hb => by
  rcases ho3 b hb with e | e
  ·exact HO2.out b e
  ·omega)
 have HD3:=Lib.hid (show DeskAt w3 D dH1 _ _ _ from hd3)
 have HB3:=Lib.hid (HB2.out.trans (hf3.below HB2.out.size fun k e => by have:=HO2.out k e; omega))
 clear he hd3 hf3 ho3 hcode HC2 HD2
 go_wp2_with fail
 refine (show Calls Tryz.prog 35 #[.pointer (some ⟨D,0,none⟩),.int .i64 1,.agg #[.int .i64 0,.int .i64 0,.int .i64 0,.int .i64 0,.int .i64 0,.int .i64 0,.int .i64 0,.int .i64 0]] w3 _ from Event_ok HD3.out 1 (by omega) (fun _ => 0) (by rw [dH_len.1]; decide)).mono ?_
 rintro e w4 ⟨rfl,qs4,hd4,hf4,ho4⟩
 have HO4:=Lib.hid (show ∀ b,Owns D vs3 qs4 b→w1.heap.size≤b from fun b hb => by
  rcases ho4 b hb with e | e
  ·exact HO3.out b e
  ·have:=HB3.out.size; have:=hf4.size; have:=HD3.out.typed.lt; omega)
 have HD4:=Lib.hid (show DeskAt w4 D dH2 _ _ _ from hd4)
 have HB4:=Lib.hid (HB3.out.trans (hf4.below HB3.out.size fun k e => by have:=HO3.out k e; omega))
 clear hd4 hf4 ho4 HD3
 go_wp2_with fail
 refine (show Calls Tryz.prog 35 #[.pointer (some ⟨D,0,none⟩),.int .i64 1,.agg #[.int .i64 0,.int .i64 0,.int .i64 0,.int .i64 0,.int .i64 0,.int .i64 0,.int .i64 0,.int .i64 0]] w4 _ from Event_ok HD4.out 1 (by omega) (fun _ => 0) (by rw [dH_len.2]; decide)).mono ?_
 rintro e w5 ⟨rfl,qs5,hd5,hf5,ho5⟩
 have HO5:=Lib.hid (show ∀ b,Owns D vs3 qs5 b→w1.heap.size≤b from fun b hb => by
  rcases ho5 b hb with e | e
  ·exact HO4.out b e
  ·have:=hf5.size; have:=HD4.out.typed.lt; have:=HO4.out D (.inl rfl); omega)
 have HD5:=Lib.hid (show DeskAt w5 D dH3 _ _ _ from hd5)
 have HB5:=Lib.hid (HB4.out.trans (hf5.below HB4.out.size fun k e => by have:=HO4.out k e; omega))
 clear hd5 hf5 ho5 HD4
 go_wp2_with fail
 obtain ⟨s1,s2,s3,s4⟩:=dH_small
 refine (Round_any HD5.out (HG.out.later HB5.out) (fun e => by have:=HO5.out _ e; omega) (fun k hk => by rw [s1 k hk]; omega) (fun k hk => by rw [s2]; show (0:Int)≤5∧(5:Int)≤1000; decide) (by rw [s3]; exact ⟨by decide,by decide⟩) s4).mono ?_
 rintro e w6 ⟨y,qs6,pls6,L,rfl,hR⟩
 obtain ⟨x,hx1,hx2⟩:=dH_done
 have hL:=hR.eq
 rw [hx1] at hL
 obtain ⟨z,rfl⟩:∃ z,L=[z]:=by
  match L,hL with
  | [z],_ => exact ⟨z,rfl⟩
 obtain ⟨g,cy,rfl,hgl,hrg⟩:=dones_form hR.dones (i:=0) (x:=z) rfl
 have hz:z.2.1.steps=8:=by
  have e:=congrArg (fun l => (l.head?.map fun t:Int × Sd => t.2.steps)) hL
  simp at e
  rw [e,hx2]
 have k4:w6.cell? ⟨g,4,none⟩=some (.int .i64 8):=by have:=hrg 4 (.int .i64 z.2.1.steps) rfl; rw [hz] at this; simpa using this
 have HO6:=Lib.hid (show ∀ b,Owns D vs3 qs6 b→w1.heap.size≤b from fun b hb => by
  rcases hR.own b hb with e | e
  ·exact HO5.out b e
  ·have:=HD5.out.typed.lt; have:=HO5.out D (.inl rfl); omega)
 have HD6:=Lib.hid hR.desk
 have HB6:=Lib.hid (HB5.out.trans (hR.frm.below HB5.out.size fun k e => by have:=HO5.out k e; omega))
 clear hR hrg hL s1 s2 s3 s4 hx1 hx2 HD5
 obtain ⟨p,hp1,hp2⟩:=dH_cells
 have cd:w6.cell? ⟨D,2,none⟩=some (vs3 1):=(HD6.out.img.cell 2 (by omega)).trans (congrArg some (dimg_chain (k:=1) (by omega)).1)
 have hcells:=Cells_in (HD6.out.chain 1 (by omega)) D 2 cd 1 hp1
 unfold tab16 at hcells
 rw [hp2] at hcells
 have HCL:=Lib.hid hcells
 clear hcells cd hp1
 go_wp2_with fail
 refine HCL.out.mono ?_
 rintro e w7 ⟨rfl,hb7⟩
 have HD7:=Lib.hid (HD6.out.later hb7)
 have HB7:=Lib.hid (HB6.out.trans (hb7.mono HB6.out.size))
 have k47:=(hb7.cell (p:=⟨g,4,none⟩) hgl).trans k4
 have hgl7:g < w7.heap.size:=Nat.lt_of_lt_of_le hgl hb7.size
 clear hb7 k4 HCL
 go_wp2_with fail
 generalize hW:World.alloc w7 _=w8
 have hb8:Below w7.heap.size w7 w8:=hW ▸ (Below.refl w7.heap.size w7).alloc (Nat.le_refl _) _
 have k48:=(hb8.cell (p:=⟨g,4,none⟩) hgl7).trans k47
 have t08:w8.cell? ⟨w7.heap.size,0,none⟩=some (.int .i64 1):=hW ▸ cell_of_row _ w7.heap.size 0 _ _ (0,0) (heap_alloc_new w7 _)
 have HD8:=Lib.hid (HD7.out.later hb8)
 have HB8:=Lib.hid (HB7.out.trans (hb8.mono HB7.out.size))
 clear hb8 hW k47
 refine (show Calls Tryz.prog 15 #[.pointer (some ⟨D,0,none⟩),.int .i64 1] w8 (fun e w' => e=.returned (.int .i64 1)∧w'=w8) from by have:=Waits_in HD8.out 1 (by omega); rw [dH_rest.1] at this; exact this).mono ?_
 rintro e w8 ⟨rfl,rfl⟩
 go_wp2_with fail
 refine (show Calls Tryz.prog 16 #[.pointer (some ⟨D,0,none⟩),.int .i64 1] w8 (fun e w' => e=.returned (.int .i64 (-4))∧w'=w8) from by have:=Left_in HD8.out 1 (by omega); rw [dH_rest.2] at this; exact this).mono ?_
 rintro e w8 ⟨rfl,rfl⟩
 go_wp2_with fail
 go_ret
 exact ⟨rfl,HB8.out⟩
end Go.Proofs.YtpdlmbbgioenoaaGreatDoor.W
