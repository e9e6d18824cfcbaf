/- HookApart: for every input the law returns true, and each argument reads as it did; the variable errors.errorType, strconv's two errors, the tables of names and those that numbers' texts are made of are tied to the program's text (the card). No further conditions. -/
import Derived.Test.YtpdlmbbgioenoaaGreatDoorOneHookB
import Derived.Test.YtpdlmbbgioenoaaGreatDoorCards
import Derived.Test.YtpdlmbbgioenoaaGreatDoorTie
import Derived.Test.YtpdlmbbgioenoaaGreatDoorLaidB3
import Derived.Test.YtpdlmbbgioenoaaGreatDoorClosedHookApart
import Derived.ChangeMaps5
set_option linter.unusedSimpArgs false
set_option linter.unusedVariables false
set_option maxRecDepth 100000
namespace Go.Proofs.YtpdlmbbgioenoaaGreatDoor.W
open Go.RowKit Go.Proofs.YtpdlmbbgioenoaaGreatDoor.P
set_option maxHeartbeats 4000000 in
theorem pick3 (a:Int) (w:World) :
  Calls Tryz.prog 34 #[.int .i64 a,.int .i64 3] w fun e w' => e=.returned (.int .i64 (u a % 3))∧w'=w:=by
 have e1:=wrap_u64 a
 have b1:=u_nonneg a
 have b2:u a≤18446744073709551615:=by have:=u_lt a; omega
 go_enter Tryz.func34,Tryz.ntmps34
 go_wp2_with fail
 go_ret
 exact ⟨rfl,rfl⟩
def nums (g:Nat→Int):Nat→Value:=fun j => .int .i64 (g j)
def boos (g:Nat→Bool):Nat→Value:=fun j => .bool (g j)
structure FairAt (w:World) (D A:Nat) (may:Nat→Int) (d:HD) (vs qs:Nat→Value) (pls:Nat→List (HP × Value)) (sp mo ca we:Nat→Int) (al:Nat→Bool) (wr:World):Prop where
 desk:DeskAt wr D d vs qs pls
 own:∀ b,Owns D vs qs b→w.heap.size < b∧¬ (A≤b∧b < A+5)
 base:w.heap.size < A
 box:P.Img wr w.heap.size 3 (nums may)
 i0:P.Img wr A 3 (nums sp)
 i1:P.Img wr (A+1) 3 (nums mo)
 i2:P.Img wr (A+2) 3 (nums ca)
 i3:P.Img wr (A+3) 3 (nums we)
 i4:P.Img wr (A+4) 3 (boos al)
 t:∀ j,j < 4→Typed wr (A+j) 22
 t4:Typed wr (A+4) 94
 below:Below w.heap.size w wr
section
variable {w wr wr':World} {D A:Nat} {may:Nat→Int} {d d':HD} {vs qs vs' qs':Nat→Value} {pls pls':Nat→List (HP × Value)} {sp mo ca we:Nat→Int} {al:Nat→Bool}
theorem Typed.frm {M:Nat→Prop} {b:Nat} {s:TypeId} (h:Typed wr b s) (hf:Frm M wr wr') (hM:¬ M b):Typed wr' b s:=by
 obtain ⟨c,hc⟩:=h
 exact ⟨c,(hf.block b (Array.getElem?_eq_some_iff.1 hc).1 hM).trans hc⟩
theorem FairAt.step (h:FairAt w D A may d vs qs pls sp mo ca we al wr) (hf:Frm (Owns D vs qs) wr wr') (hd:DeskAt wr' D d' vs' qs' pls') (ho:∀ b,Owns D vs' qs' b→Owns D vs qs b ∨ wr.heap.size≤b):FairAt w D A may d' vs' qs' pls' sp mo ca we al wr':=by
 have n:∀ j,j < 5→¬ Owns D vs qs (A+j):=fun j hj e => (h.own _ e).2 ⟨by omega,by omega⟩
 have nb:¬ Owns D vs qs w.heap.size:=fun e => by have:=(h.own _ e).1; omega
 refine ⟨hd,fun b hb => ?_,h.base,hf.img h.box (by omega) nb,hf.img h.i0 (by omega) (n 0 (by omega)),hf.img h.i1 (by omega) (n 1 (by omega)),hf.img h.i2 (by omega) (n 2 (by omega)),hf.img h.i3 (by omega) (n 3 (by omega)),hf.img h.i4 (by omega) (n 4 (by omega)),fun j hj => (h.t j hj).frm hf (n j (by omega)),h.t4.frm hf (n 4 (by omega)),?_⟩
 ·rcases ho b hb with e | e
  ·exact h.own b e
  ·have h4:=h.i4.lt (by omega)
   have hb0:=h.base
   exact ⟨by omega,by omega⟩
 ·exact h.below.trans (hf.below h.below.size fun k e => by have:=(h.own k e).1; omega)
theorem FairAt.later (h:FairAt w D A may d vs qs pls sp mo ca we al wr) (hb:Below wr.heap.size wr wr'):FairAt w D A may d vs qs pls sp mo ca we al wr' :=
 h.step (Frm.of hb) (h.desk.later hb) fun b hb => .inl hb
end
structure HAct where
 what:Int
 hook:Int
 rank:Int
 oa:Option Addr
 cap:Nat
 L:List Step
 told:Nat→Int
def HAct.cells (x:HAct):List Value:=[.int .i64 x.what,.int .i64 x.hook,.int .i64 x.rank,.slice x.oa x.L.length x.cap]++t8 x.told
structure ActAt (w:World) (p:Addr) (x:HAct):Prop where
 c0:w.cell? p=some (.int .i64 x.what)
 c1:w.cell? ⟨p.block,p.off+1,none⟩=some (.int .i64 x.hook)
 c2:w.cell? ⟨p.block,p.off+2,none⟩=some (.int .i64 x.rank)
 c3:w.cell? ⟨p.block,p.off+3,none⟩=some (.slice x.oa x.L.length x.cap)
 c4:w.cell? ⟨p.block,p.off+4,none⟩=some (.int .i64 (x.told 0))
 c5:w.cell? ⟨p.block,p.off+5,none⟩=some (.int .i64 (x.told 1))
 c6:w.cell? ⟨p.block,p.off+6,none⟩=some (.int .i64 (x.told 2))
 c7:w.cell? ⟨p.block,p.off+7,none⟩=some (.int .i64 (x.told 3))
 c8:w.cell? ⟨p.block,p.off+8,none⟩=some (.int .i64 (x.told 4))
 c9:w.cell? ⟨p.block,p.off+9,none⟩=some (.int .i64 (x.told 5))
 c10:w.cell? ⟨p.block,p.off+10,none⟩=some (.int .i64 (x.told 6))
 c11:w.cell? ⟨p.block,p.off+11,none⟩=some (.int .i64 (x.told 7))
theorem ActAt.later {w w':World} {p:Addr} {x:HAct} (h:ActAt w p x) (hb:Below w.heap.size w w'):ActAt w' p x:=by
 have hp:=block_lt_of_cell h.c0
 exact ⟨(hb.cell hp).trans h.c0,(hb.cell (p:=⟨p.block,_,none⟩) hp).trans h.c1,(hb.cell (p:=⟨p.block,_,none⟩) hp).trans h.c2,(hb.cell (p:=⟨p.block,_,none⟩) hp).trans h.c3,(hb.cell (p:=⟨p.block,_,none⟩) hp).trans h.c4,(hb.cell (p:=⟨p.block,_,none⟩) hp).trans h.c5,(hb.cell (p:=⟨p.block,_,none⟩) hp).trans h.c6,(hb.cell (p:=⟨p.block,_,none⟩) hp).trans h.c7,(hb.cell (p:=⟨p.block,_,none⟩) hp).trans h.c8,(hb.cell (p:=⟨p.block,_,none⟩) hp).trans h.c9,(hb.cell (p:=⟨p.block,_,none⟩) hp).trans h.c10,(hb.cell (p:=⟨p.block,_,none⟩) hp).trans h.c11⟩
def ActsAt (w:World) (oa:Option Addr) (l:List HAct):Prop:=∀ i x,l[i]?=some x→∃ a,oa=some a∧ActAt w (a.add (i*12)) x
structure HAct.Ok (w:World) (x:HAct):Prop where
 cap:x.L.length≤x.cap
 at_:ProgAt w x.oa (nth x.L) x.L.length
 in_:∀ j,j < x.L.length→In64 (nth x.L j).off∧In64 (nth x.L j).num
 max:x.L.length≤maxLen
theorem turn_ok {d:HD} (h:∀ j,j < 3→(d.c j).l.length≤8) {k:Nat} (hk:k < 3):(∀ y ∈ d.doneOf k,∃ m:Nat,m < 3∧y.1=m∧0≤y.2.steps∧y.2.steps≤1600)∧∀ j,j < 3→((d.after k).c j).l.length≤8:=by
 have hs:=drain_spends (d.q k).length ⟨d.c k,d.q k,d.left k+d.may k,d.time,[]⟩ ⟨h k hk,by simp⟩
 change Spends _ (d.turn k) at hs
 refine ⟨fun y hy => ?_,fun j hj => ?_⟩
 ·obtain ⟨s,hs1,rfl⟩:=List.mem_map.1 hy
  have:=hs.ok.steps s hs1
  exact ⟨k,hk,rfl,this.1,this.2⟩
 ·unfold HD.after
  by_cases e:j=k
  ·subst e; simp only [upd_same]; exact hs.ok.short
  ·simp only [upd_other e]; exact h j hj
end Go.Proofs.YtpdlmbbgioenoaaGreatDoor.W
namespace Go.Proofs.YtpdlmbbgioenoaaGreatDoor.W
open Go.RowKit Go.Proofs.YtpdlmbbgioenoaaGreatDoor.P
structure FairInv (w:World) (D A:Nat) (may:Nat→Int) (i:Nat) (d:HD) (f:FS) (vs qs:Nat→Value) (pls:Nat→List (HP × Value)) (wr:World):Prop where
 mem:FairAt w D A may d vs qs pls f.spent f.most f.came f.went f.always wr
 inv:FInv d f (fun _ => f.rounds)
 may_:d.may=may
 rounds:0≤f.rounds∧f.rounds≤i
 time:0≤d.time∧d.time≤60*i
 next:∀ k,k < 3→0≤(d.c k).next∧(d.c k).next≤i
 came:∀ k,k < 3→f.came k≤i
structure FSmall (d:HD) (f:FS) (k:Nat):Prop where
 may:1≤d.may k∧d.may k≤60
 left:-1601≤d.left k∧d.left k≤3600
 spent:0≤f.spent k∧f.spent k≤6000
 most:0≤f.most k∧f.most k≤1601
 came:0≤f.came k∧f.came k≤60
 went:0≤f.went k∧f.went k≤60
 prod:0≤f.rounds*d.may k∧f.rounds*d.may k≤3600
 few:(d.q k).length≤20
section
variable {w wr wr':World} {D A:Nat} {may:Nat→Int} {i:Nat} {d d':HD} {f:FS} {vs qs vs' qs':Nat→Value} {pls pls':Nat→List (HP × Value)}
theorem fsmall (h:FInv d f (fun _ => f.rounds)) (hr:0≤f.rounds∧f.rounds≤i) (hc:∀ k,k < 3→f.came k≤i) (hi:i≤60) {k:Nat} (hk:k < 3):FSmall d f k:=by
 have x:=h.hook k hk
 have hm:=x.hmay
 have p1:f.rounds*d.may k≤60*60:=Int.mul_le_mul (by omega) (by omega) (by omega) (by omega)
 have p0:0≤f.rounds*d.may k:=Int.mul_nonneg hr.1 (by omega)
 have h1:=x.hwaits; have h2:=x.hmost; have h3:=x.hdebt; have h4:=x.hsum; have h5:=x.hspent; have h6:=x.hwent
 have h7:=hc k hk
 have h8:=h.few k hk
 refine ⟨hm,⟨by omega,by omega⟩,⟨h5,by omega⟩,h2,⟨by omega,by omega⟩,⟨h6,by omega⟩,⟨p0,by omega⟩,h8⟩
theorem FairInv.small (h:FairInv w D A may i d f vs qs pls wr) (hi:i≤60) {k:Nat} (hk:k < 3):FSmall d f k:=fsmall h.inv h.rounds h.came hi hk
theorem FairInv.idle (h:FairInv w D A may i d f vs qs pls wr):FairInv w D A may (i+1) d f vs qs pls wr :=
 ⟨h.mem,h.inv,h.may_,⟨h.rounds.1,by have:=h.rounds.2; push_cast; omega⟩,⟨h.time.1,by have:=h.time.2; push_cast; omega⟩,fun k hk => ⟨(h.next k hk).1,by have:=(h.next k hk).2; push_cast; omega⟩,fun k hk => by have:=h.came k hk; push_cast; omega⟩
theorem FairInv.later (h:FairInv w D A may i d f vs qs pls wr) (hb:Below wr.heap.size wr wr'):FairInv w D A may i d f vs qs pls wr':={ h with mem:=h.mem.later hb }
theorem FairInv.event (h:FairInv w D A may i d f vs qs pls wr) {k:Nat} (hk:k < 3) (told:Nat→Int) (h20:¬ 20≤(d.q k).length) (hm:FairAt w D A may (d.event k told) vs' qs' pls' f.spent f.most (upd f.came k (f.came k+1)) f.went f.always wr') :
  FairInv w D A may (i+1) (d.event k told) { f with came:=upd f.came k (f.came k+1) } vs' qs' pls' wr':=by
 have hi:=h.inv.event k told
 rw [if_neg h20] at hi
 have he:d.event k told={ d with q:=upd d.q k (d.q k++[told]) }:=by unfold HD.event; rw [if_neg h20]
 refine ⟨hm,hi,by rw [he]; exact h.may_,⟨h.rounds.1,by have:=h.rounds.2; show f.rounds≤_; push_cast; omega⟩,?_,fun j hj => ?_,fun j hj => ?_⟩
 ·rw [he]; have:=h.time; show 0≤d.time∧d.time≤_; push_cast; omega
 ·rw [he]; have:=h.next j hj; show 0≤(d.c j).next∧(d.c j).next≤_; push_cast; omega
 ·have:=h.came j hj
  have h2:=h.came k hk
  push_cast
  by_cases e:j=k
  ·subst e; simp only [upd_same]; omega
  ·simp only [upd_other e]; omega
theorem attach_next (c:HC) (L:List Step) (r:Int):(c.attach L r).1.next=c.next ∨ (c.attach L r).1.next=c.next+1:=by
 unfold HC.attach
 split
 ·exact .inl rfl
 split
 ·exact .inl rfl
 ·exact .inr rfl
theorem FairInv.attach (h:FairInv w D A may i d f vs qs pls wr) {k:Nat} (hk:k < 3) (L:List Step) (r:Int) (hm:FairAt w D A may (d.attach k L r) vs' qs' pls' f.spent f.most f.came f.went f.always wr') :
  FairInv w D A may (i+1) (d.attach k L r) f vs' qs' pls' wr':=by
 refine ⟨hm,h.inv.attach k L r,h.may_,⟨h.rounds.1,by have:=h.rounds.2; push_cast; omega⟩,⟨h.time.1,?_⟩,fun j hj => ?_,fun j hj => by have:=h.came j hj; push_cast; omega⟩
 ·have:=h.time.2; push_cast; show d.time≤_; omega
 ·have hn:=h.next j hj
  unfold HD.attach
  by_cases e:j=k
  ·subst e
   simp only [upd_same]
   rcases attach_next (d.c j) L r with e | e <;> rw [e] <;> push_cast <;> omega
  ·simp only [upd_other e]; push_cast; omega
theorem turn_next {d:HD} (h:∀ j,j < 3→(d.c j).l.length≤8) {k:Nat} (hk:k < 3) (j:Nat):((d.after k).c j).next=(d.c j).next:=by
 have hs:=drain_spends (d.q k).length ⟨d.c k,d.q k,d.left k+d.may k,d.time,[]⟩ ⟨h k hk,by simp⟩
 change Spends _ (d.turn k) at hs
 unfold HD.after
 by_cases e:j=k
 ·subst e; simp only [upd_same]; exact hs.c
 ·simp only [upd_other e]
theorem round_next {d:HD} (h:∀ j,j < 3→(d.c j).l.length≤8) (j:Nat):((d.round).c j).next=(d.c j).next:=by
 have h0:=turn_ok h (k:=0) (by omega)
 have h1:=turn_ok h0.2 (k:=1) (by omega)
 unfold HD.round
 rw [turn_next h1.2 (by omega),turn_next h0.2 (by omega),turn_next h (by omega)]
theorem FairInv.round (h:FairInv w D A may i d f vs qs pls wr) (hm:FairAt w D A may d.round vs' qs' pls' (f.adds d.done).spent (f.adds d.done).most f.came (f.adds d.done).went (f.round d).always wr') :
  FairInv w D A may (i+1) d.round (f.round d) vs' qs' pls' wr':=by
 have hc:(f.round d).came=f.came:=(adds_keep d.done f).2.1
 have ht:=hdAfters_time d h.inv.few 3 (by omega)
 rw [hdAfters_three] at ht
 refine ⟨?_,h.inv.round,h.may_,?_,?_,fun j hj => ?_,fun j hj => ?_⟩
 ·rw [hc]; exact hm
 ·have:=h.rounds; show 0≤f.rounds+1∧f.rounds+1≤_; push_cast; omega
 ·have:=h.time; push_cast at ht ⊢; omega
 ·rw [round_next h.inv.short]; have:=h.next j hj; push_cast; omega
 ·rw [hc]; have:=h.came j hj; push_cast; omega
end
theorem Attach_all {w:World} {D:Nat} {d:HD} {vs qs:Nat→Value} {pls:Nat→List (HP × Value)} (h:DeskAt w D d vs qs pls) (k:Nat) (hk:k < 3) (x:HAct) {W0:World} (hx:x.Ok W0) (hb0:Below W0.heap.size W0 w) (hno:∀ b,b < W0.heap.size→¬ Owns D vs qs b) (hg:ErrT w) (hnx:0≤(d.c k).next∧(d.c k).next < 1000000) :
  Calls Tryz.prog 36 #[.pointer (some ⟨D,k*2,none⟩),.slice x.oa x.L.length x.cap,.int .i64 x.rank] w fun e w' => (∃ er,e=.returned (.tuple #[.int .i64 ((d.c k).attach x.L x.rank).2.1,er])) ∧
   ∃ vs' pls',DeskAt w' D (d.attach k x.L x.rank) vs' qs pls'∧Frm (Owns D vs qs) w w'∧∀ b,Owns D vs' qs b→Owns D vs qs b ∨ w.heap.size≤b:=by
 have hat:ProgAt w x.oa (nth x.L) x.L.length:=hx.at_.later hb0
 by_cases h0:x.L.length=0
 ·have hv:(verify (nth x.L) x.L.length).1.1 ≠ 0:=fun e => by have:=verify_len e; omega
  have e1:(d.c k).attach x.L x.rank=(d.c k,0,(verify (nth x.L) x.L.length).1):=by unfold HC.attach; rw [if_pos hv]
  have e2:d.attach k x.L x.rank=d:=by unfold HD.attach; rw [e1]; simp only [upd_self]
  rw [e2,e1]
  exact (Attach_err _ x.oa x.cap x.L x.rank w hx.cap hat hx.in_ hg hv).mono fun e w' ⟨⟨er,he,_⟩,hb⟩ => ⟨⟨er,he⟩,vs,pls,h.later hb,Frm.of hb,fun b hb => .inl hb⟩
 ·refine (Attach_any h k hk x.oa x.cap x.L x.rank hx.cap hat (fun a ha => ?_) hx.in_ hg hnx).mono fun e w' ⟨⟨er,he,_⟩,hp⟩ => ⟨⟨er,he⟩,hp⟩
  obtain ⟨a',ha',hc⟩:=hx.at_ (by omega)
  rw [ha] at ha'
  cases ha'
  exact hno _ (block_lt_of_cell (hc 0 (by omega)).1)
theorem Typed.alloc {w:World} {b:Nat} {t:TypeId} (h:Typed w b t) (o:Obj):Typed (w.alloc o) b t:=h.frm' (Frm.of ((Below.refl _ _).alloc (Nat.le_refl _) o) (M:=fun _ => False)) (fun h => h)
section
variable {w wr:World} {D A:Nat} {may:Nat→Int} {d:HD} {vs qs:Nat→Value} {pls:Nat→List (HP × Value)} {sp mo ca we:Nat→Int} {al:Nat→Bool}
theorem below_drewN (w:World) (n:Nat):Below w.heap.size w (w.drewN n):=⟨rfl,rfl,rfl,Nat.le_refl _,fun _ _ => rfl⟩
theorem DonesAt.later {w w':World} {B:Nat} {L:List (Int × Sd × Value)} {v:Value} (h:DonesAt w B L v) (hb:Below w.heap.size w w'):DonesAt w' B L v:=h.frm (M:=fun _ => False) (Frm.of hb) (fun _ _ h => h) fun _ _ h => h
end
end Go.Proofs.YtpdlmbbgioenoaaGreatDoor.W
namespace Go.Proofs.YtpdlmbbgioenoaaGreatDoor.R
open Go.ChangeShapes Go.WideShapes Go.ChangeAt Go.RowKit Go.Joins Go.Deep
theorem cellsA:Tryz.prog.cellsOf 96=12:=by kernel_rfl
theorem twelve {α:Type} {l:List α} (h:l.length=12):∃ a b c d e f g i j k m n,l=[a,b,c,d,e,f,g,i,j,k,m,n]:=by
 match l,h with
 | [a,b,c,d,e,f,g,i,j,k,m,n],_ => exact ⟨a,b,c,d,e,f,g,i,j,k,m,n,rfl⟩
theorem five {α:Type} {l:List α} (h:l.length=5):∃ a b c d e,l=[a,b,c,d,e]:=by
 match l,h with
 | [a,b,c,d,e],_ => exact ⟨a,b,c,d,e,rfl⟩
theorem eight_of_reads {H:Type} {enc:TypeId × Value→H} {W:World} {sp:Nat→Bool} {held:Bool} {fuel:Nat} {a b c d e f g h:Value} {x:DataW H × List MemPlace}
  (hf:DataW.trod enc Tryz.prog W 0 sp held fuel 34 [a,b,c,d,e,f,g,h]=some x):∃ told:Nat→Int,[a,b,c,d,e,f,g,h]=Go.Proofs.YtpdlmbbgioenoaaGreatDoor.W.t8 told:=by
 obtain ⟨xs,m,-,-,-,hxl,hi⟩:=DataW.trod_array Tryz.underlying34 hf
 obtain ⟨k,h1,h2⟩:=arr_of (cs:=#[a,b,c,d,e,f,g,h]) (n:=8) rfl fun i hil => by
  have hx:=hi i hil
  rw [List.getElem?_eq_getElem (by omega),cellsI] at hx
  obtain ⟨k,e1,-,wk⟩:=DataW.trod_int Tryz.underlying2 hx
  refine ⟨k,?_,in64_lit wk⟩
  have:=congrArg (·[0]?) e1
  simpa [List.getElem?_take,List.getElem?_drop] using this
 exact ⟨k,by have:=congrArg Array.toList h2; exact this⟩
theorem act_of_reads {H:Type} {enc:TypeId × Value→H} {W:World} {fuel:Nat} {cs:List Value} {x:DataW H × List MemPlace}
  (h:DataW.trod enc Tryz.prog W 0 (fun _ => true) true fuel 96 cs=some x):∃ a:Go.Proofs.YtpdlmbbgioenoaaGreatDoor.W.HAct,cs=a.cells∧a.Ok W:=by
 obtain ⟨xs,n,-,-,hl,hxl,hf⟩:=DataW.trod_struct Tryz.underlying96 h
 rw [cellsA] at hl
 obtain ⟨c0,c1,c2,c3,c4,c5,c6,c7,c8,c9,c10,c11,rfl⟩:=twelve hl
 obtain ⟨x0,x1,x2,x3,x4,rfl⟩:=five hxl
 have g0:DataW.trod enc Tryz.prog W 0 (fun _ => true) true n 3 (List.take (Tryz.prog.cellsOf 3) (List.drop 0 [c0,c1,c2,c3,c4,c5,c6,c7,c8,c9,c10,c11]))=some x0:=hf 0 _ rfl
 have g1:DataW.trod enc Tryz.prog W 0 (fun _ => true) true n 3 (List.take (Tryz.prog.cellsOf 3) (List.drop 1 [c0,c1,c2,c3,c4,c5,c6,c7,c8,c9,c10,c11]))=some x1:=hf 1 _ rfl
 have g2:DataW.trod enc Tryz.prog W 0 (fun _ => true) true n 3 (List.take (Tryz.prog.cellsOf 3) (List.drop 2 [c0,c1,c2,c3,c4,c5,c6,c7,c8,c9,c10,c11]))=some x2:=hf 2 _ rfl
 have g3:DataW.trod enc Tryz.prog W 0 (fun _ => true) true n 33 (List.take (Tryz.prog.cellsOf 33) (List.drop 3 [c0,c1,c2,c3,c4,c5,c6,c7,c8,c9,c10,c11]))=some x3:=hf 3 _ rfl
 have g4:DataW.trod enc Tryz.prog W 0 (fun _ => true) true n 34 (List.take (Tryz.prog.cellsOf 34) (List.drop 4 [c0,c1,c2,c3,c4,c5,c6,c7,c8,c9,c10,c11]))=some x4:=hf 4 _ rfl
 have cI:Tryz.prog.cellsOf 3=1:=by kernel_rfl
 have cS:Tryz.prog.cellsOf 33=1:=by kernel_rfl
 simp only [cI,cS,cellsW,List.drop_zero,List.drop_succ_cons,List.take_succ_cons,List.take_zero] at g0 g1 g2 g3 g4
 obtain ⟨k0,e0,-⟩:=DataW.trod_int Tryz.underlying3 g0
 obtain ⟨k1,e1,-⟩:=DataW.trod_int Tryz.underlying3 g1
 obtain ⟨k2,e2,-⟩:=DataW.trod_int Tryz.underlying3 g2
 obtain ⟨told,e4⟩:=eight_of_reads g4
 simp only [List.cons.injEq,and_true] at e0 e1 e2
 subst e0 e1 e2
 have main:∃ oa L cap,c3=.slice oa (List.length (α:=P.Step) L) cap∧L.length≤cap∧Go.Proofs.YtpdlmbbgioenoaaGreatDoor.W.ProgAt W oa (P.nth L) L.length∧∀ j,j < L.length→P.In64 (P.nth L j).off∧P.In64 (P.nth L j).num:=by
  rcases steps_of_reads g3 with h1 | ⟨a,len,cap,S,h1,hl,hs,hi⟩
  ·exact ⟨none,[],0,h1,Nat.le_refl _,fun h => by simp at h,fun j h => by simp at h⟩
  ·have hlen:(P.first S len).length=len:=P.first_length S len
   have hnth:∀ j,j < len→P.nth (P.first S len) j=S j:=fun j hj => P.nth_first S len j hj
   refine ⟨some a,P.first S len,cap,by rw [hlen]; exact h1,by rw [hlen]; exact hl,fun _ => ⟨a,rfl,fun i hil => ?_⟩,fun j hj => ?_⟩
   ·rw [hlen] at hil
    rw [hnth i hil]
    exact hs i hil
   ·rw [hlen] at hj
    rw [hnth j hj]
    exact (hi j hj).2.2
 obtain ⟨oa,L,cap,rfl,hcap,hat,hin⟩:=main
 have hmx:L.length≤maxLen:=by
  rcases open_slice Tryz.underlying33 g3 with ⟨hc,-⟩ | ⟨a,len,cap',m,n',D,Pl,hc,hb,hl,hm,-⟩
  ·simp only [List.cons.injEq,Value.slice.injEq,and_true] at hc
   rw [hc.2.1]; exact Nat.zero_le _
  ·simp only [List.cons.injEq,Value.slice.injEq,and_true] at hc
   omega
 refine ⟨⟨k0,k1,k2,oa,cap,L,told⟩,?_,⟨hcap,hat,hin,hmx⟩⟩
 show [Value.int .i64 k0,.int .i64 k1,.int .i64 k2,.slice oa L.length cap,c4,c5,c6,c7,c8,c9,c10,c11]=[Value.int .i64 k0,.int .i64 k1,.int .i64 k2,.slice oa L.length cap]++Go.Proofs.YtpdlmbbgioenoaaGreatDoor.W.t8 told
 rw [← e4]
 rfl
theorem acts_of_reads {H:Type} {enc:TypeId × Value→H} {W:World} {fuel:Nat} {v:Value} {x:DataW H × List MemPlace}
  (h:DataW.trod enc Tryz.prog W 0 (fun _ => true) true fuel 92 [v]=some x) :
  ∃ oa cap l,v=.slice oa (List.length (α:=Go.Proofs.YtpdlmbbgioenoaaGreatDoor.W.HAct) l) cap∧l.length≤cap∧Go.Proofs.YtpdlmbbgioenoaaGreatDoor.W.ActsAt W oa l∧∀ x ∈ l,x.Ok W:=by
 rcases open_slice Tryz.underlying92 h with ⟨hc,-⟩ | ⟨a,len,cap,m,n,D,Pl,hc,hb,hl,hm,hmm,hx,hi⟩
 ·exact ⟨none,0,[],by simpa using hc,Nat.le_refl _,fun i x h => by simp at h,fun x h => by cases h⟩
 ·have hs:∀ i,i < len→∃ y:Go.Proofs.YtpdlmbbgioenoaaGreatDoor.W.HAct,Go.Proofs.YtpdlmbbgioenoaaGreatDoor.W.ActAt W (a.add (i*12)) y∧y.Ok W:=by
   intro i hil
   have him:i < m:=by rw [hmm]; simp; omega
   obtain ⟨cs,hcs,ht⟩:=hi i him
   rw [cellsA] at hcs
   obtain ⟨-,-,hat⟩:=World.cells?_some hcs
   obtain ⟨y,rfl,ok⟩:=act_of_reads ht
   exact ⟨y,⟨hat 0 (by omega),hat 1 (by omega),hat 2 (by omega),hat 3 (by omega),hat 4 (by omega),hat 5 (by omega),hat 6 (by omega),hat 7 (by omega),hat 8 (by omega),hat 9 (by omega),hat 10 (by omega),hat 11 (by omega)⟩,ok⟩
  let f:Fin len→Go.Proofs.YtpdlmbbgioenoaaGreatDoor.W.HAct:=fun i => Classical.choose (hs i.1 i.2)
  have hf:∀ i:Fin len,Go.Proofs.YtpdlmbbgioenoaaGreatDoor.W.ActAt W (a.add (i.1*12)) (f i)∧(f i).Ok W:=fun i => Classical.choose_spec (hs i.1 i.2)
  refine ⟨some a,cap,List.ofFn f,by rw [List.length_ofFn]; simpa using hc,by rw [List.length_ofFn]; exact hl,fun i y hy => ⟨a,rfl,?_⟩,fun y hy => ?_⟩
  ·have hil:i < len:=by have:=(List.getElem?_eq_some_iff.1 hy).1; rwa [List.length_ofFn] at this
   rw [List.getElem?_ofFn,dif_pos hil] at hy
   injection hy with hy
   rw [← hy]
   exact (hf ⟨i,hil⟩).1
  ·obtain ⟨i,rfl⟩:=List.mem_ofFn.1 hy
   exact (hf i).2
end Go.Proofs.YtpdlmbbgioenoaaGreatDoor.R
namespace Go.Proofs.YtpdlmbbgioenoaaGreatDoor.W
open Go.RowKit Go.Proofs.YtpdlmbbgioenoaaGreatDoor.P
structure ApartAt (w:World) (D1 D2:Nat) (d1 d2:HD) (vs1 qs1 vs2 qs2:Nat→Value) (pls1 pls2:Nat→List (HP × Value)) (wr:World):Prop where
 desk1:DeskAt wr D1 d1 vs1 qs1 pls1
 desk2:DeskAt wr D2 d2 vs2 qs2 pls2
 own1:∀ b,Owns D1 vs1 qs1 b→w.heap.size≤b
 own2:∀ b,Owns D2 vs2 qs2 b→w.heap.size≤b
 sep:∀ b,Owns D1 vs1 qs1 b→¬ Owns D2 vs2 qs2 b
 below:Below w.heap.size w wr
section
variable {w wr wr':World} {D1 D2:Nat} {d1 d2 d':HD} {vs1 qs1 vs2 qs2 vs' qs':Nat→Value} {pls1 pls2 pls':Nat→List (HP × Value)}
theorem ApartAt.step1 (h:ApartAt w D1 D2 d1 d2 vs1 qs1 vs2 qs2 pls1 pls2 wr) (hf:Frm (Owns D1 vs1 qs1) wr wr') (hd:DeskAt wr' D1 d' vs' qs' pls') (ho:∀ b,Owns D1 vs' qs' b→Owns D1 vs1 qs1 b ∨ wr.heap.size≤b):ApartAt w D1 D2 d' d2 vs' qs' vs2 qs2 pls' pls2 wr':=by
 have hz:=h.below.size
 refine ⟨hd,h.desk2.frm hf (fun b hb e => h.sep b e hb) (fun k hk e => Owns.noStep h.desk1 e hk),fun b hb => ?_,h.own2,fun b hb h2 => ?_,h.below.trans (hf.below hz fun k e => h.own1 k e)⟩
 ·rcases ho b hb with e | e
  ·exact h.own1 b e
  ·omega
 ·rcases ho b hb with e | e
  ·exact h.sep b e h2
  ·have:=Owns.lt h.desk2 h2; omega
theorem ApartAt.step2 (h:ApartAt w D1 D2 d1 d2 vs1 qs1 vs2 qs2 pls1 pls2 wr) (hf:Frm (Owns D2 vs2 qs2) wr wr') (hd:DeskAt wr' D2 d' vs' qs' pls') (ho:∀ b,Owns D2 vs' qs' b→Owns D2 vs2 qs2 b ∨ wr.heap.size≤b):ApartAt w D1 D2 d1 d' vs1 qs1 vs' qs' pls1 pls' wr':=by
 have hz:=h.below.size
 refine ⟨h.desk1.frm hf (fun b hb e => h.sep b hb e) (fun k hk e => Owns.noStep h.desk2 e hk),hd,h.own1,fun b hb => ?_,fun b hb h2 => ?_,h.below.trans (hf.below hz fun k e => h.own2 k e)⟩
 ·rcases ho b hb with e | e
  ·exact h.own2 b e
  ·omega
 ·rcases ho b h2 with e | e
  ·exact h.sep b hb e
  ·have:=Owns.lt h.desk1 hb; omega
theorem ApartAt.other {M:Nat→Prop} (h:ApartAt w D1 D2 d1 d2 vs1 qs1 vs2 qs2 pls1 pls2 wr) (hf:Frm M wr wr') (t:TypeId) (hM:∀ b,M b→Typed wr b t) (ht:t ≠ 116∧t ≠ 134∧t ≠ 183∧t ≠ 81) (hB:∀ b,M b→w.heap.size≤b):ApartAt w D1 D2 d1 d2 vs1 qs1 vs2 qs2 pls1 pls2 wr':=by
 have hs:∀ k,Typed wr k 81→¬ M k:=fun k hk e => ((hM k e).ne hk ht.2.2.2) rfl
 refine ⟨h.desk1.frm hf (fun b hb e => ?_) hs,h.desk2.frm hf (fun b hb e => ?_) hs,h.own1,h.own2,h.sep,h.below.trans (hf.below h.below.size hB)⟩
 ·rcases Owns.kind h.desk1 hb (hM b e) with x | x | x
  ·exact ht.1 x
  ·exact ht.2.1 x
  ·exact ht.2.2.1 x
 ·rcases Owns.kind h.desk2 hb (hM b e) with x | x | x
  ·exact ht.1 x
  ·exact ht.2.1 x
  ·exact ht.2.2.1 x
theorem ApartAt.later (h:ApartAt w D1 D2 d1 d2 vs1 qs1 vs2 qs2 pls1 pls2 wr) (hb:Below wr.heap.size wr wr'):ApartAt w D1 D2 d1 d2 vs1 qs1 vs2 qs2 pls1 pls2 wr' :=
 h.other (M:=fun _ => False) (Frm.of hb) 0 (fun _ h => h.elim) (by decide) fun _ h => h.elim
end
theorem Event_all {w:World} {D:Nat} {d:HD} {vs qs:Nat→Value} {pls:Nat→List (HP × Value)} (h:DeskAt w D d vs qs pls) (k:Nat) (hk:k < 3) (told:Nat→Int) :
  Calls Tryz.prog 35 #[.pointer (some ⟨D,0,none⟩),.int .i64 k,.agg (t8 told).toArray] w fun e w' => (∃ er,e=.returned er)∧∃ qs',DeskAt w' D (d.event k told) vs qs' pls∧Frm (Owns D vs qs) w w'∧∀ b,Owns D vs qs' b→Owns D vs qs b ∨ w.heap.size≤b:=by
 by_cases h20:20≤(d.q k).length
 ·have e:d.event k told=d:=by unfold HD.event; rw [if_pos h20]
  rw [e]
  exact (Event_full h k hk told h20).mono fun e w' ⟨he,hb⟩ => ⟨⟨_,he⟩,qs,h.later hb,Frm.of hb,fun b hb => .inl hb⟩
 ·exact (Event_ok h k hk told (by omega)).mono fun e w' ⟨he,hp⟩ => ⟨⟨_,he⟩,hp⟩
structure DInv (i:Nat) (d:HD) (f:FS):Prop where
 inv:FInv d f (fun _ => f.rounds)
 may_:d.may=fun _ => 30
 rounds:0≤f.rounds∧f.rounds≤i
 time:0≤d.time∧d.time≤60*i
 next:∀ k,k < 3→0≤(d.c k).next∧(d.c k).next≤i
 came:∀ k,k < 3→f.came k≤i
section
variable {i:Nat} {d:HD} {f:FS}
theorem DInv.zero:DInv 0 (HD.zero fun _ => 30) FS.zero:=⟨FInv.zero fun k _ => ⟨by decide,by decide⟩,rfl,⟨Int.le_refl _,Int.le_refl _⟩,⟨Int.le_refl _,Int.le_refl _⟩,fun k _ => ⟨Int.le_refl _,Int.le_refl _⟩,fun k _ => Int.le_refl _⟩
theorem DInv.small (h:DInv i d f) (hi:i≤60) {k:Nat} (hk:k < 3):FSmall d f k:=fsmall h.inv h.rounds h.came hi hk
theorem DInv.idle (h:DInv i d f):DInv (i+1) d f :=
 ⟨h.inv,h.may_,⟨h.rounds.1,by have:=h.rounds.2; push_cast; omega⟩,⟨h.time.1,by have:=h.time.2; push_cast; omega⟩,fun k hk => ⟨(h.next k hk).1,by have:=(h.next k hk).2; push_cast; omega⟩,fun k hk => by have:=h.came k hk; push_cast; omega⟩
theorem DInv.event (h:DInv i d f) {k:Nat} (hk:k < 3) (told:Nat→Int):∃ f',DInv (i+1) (d.event k told) f':=by
 have hi:=h.inv.event k told
 by_cases h20:20≤(d.q k).length
 ·have e:d.event k told=d:=by unfold HD.event; rw [if_pos h20]
  rw [e]
  exact ⟨f,h.idle⟩
 rw [if_neg h20] at hi
 have he:d.event k told={ d with q:=upd d.q k (d.q k++[told]) }:=by unfold HD.event; rw [if_neg h20]
 refine ⟨{ f with came:=upd f.came k (f.came k+1) },hi,by rw [he]; exact h.may_,⟨h.rounds.1,by have:=h.rounds.2; show f.rounds≤_; push_cast; omega⟩,?_,fun j hj => ?_,fun j hj => ?_⟩
 ·rw [he]; have:=h.time; show 0≤d.time∧d.time≤_; push_cast; omega
 ·rw [he]; have:=h.next j hj; show 0≤(d.c j).next∧(d.c j).next≤_; push_cast; omega
 ·have:=h.came j hj
  have h2:=h.came k hk
  push_cast
  by_cases e:j=k
  ·subst e; simp only [upd_same]; omega
  ·simp only [upd_other e]; omega
theorem DInv.attach (h:DInv i d f) {k:Nat} (hk:k < 3) (L:List Step) (r:Int):DInv (i+1) (d.attach k L r) f:=by
 refine ⟨h.inv.attach k L r,h.may_,⟨h.rounds.1,by have:=h.rounds.2; push_cast; omega⟩,⟨h.time.1,?_⟩,fun j hj => ?_,fun j hj => by have:=h.came j hj; push_cast; omega⟩
 ·have:=h.time.2; push_cast; show d.time≤_; omega
 ·have hn:=h.next j hj
  unfold HD.attach
  by_cases e:j=k
  ·subst e
   simp only [upd_same]
   rcases attach_next (d.c j) L r with e | e <;> rw [e] <;> push_cast <;> omega
  ·simp only [upd_other e]; push_cast; omega
theorem DInv.round (h:DInv i d f):DInv (i+1) d.round (f.round d):=by
 have hc:(f.round d).came=f.came:=(adds_keep d.done f).2.1
 have ht:=hdAfters_time d h.inv.few 3 (by omega)
 rw [hdAfters_three] at ht
 refine ⟨h.inv.round,h.may_,?_,?_,fun j hj => ?_,fun j hj => ?_⟩
 ·have:=h.rounds; show 0≤f.rounds+1∧f.rounds+1≤_; push_cast; omega
 ·have:=h.time; push_cast at ht ⊢; omega
 ·rw [round_next h.inv.short]; have:=h.next j hj; push_cast; omega
 ·rw [hc]; have:=h.came j hj; push_cast; omega
end
structure ApartInv (w:World) (D1 D2 h i:Nat) (d1 d2:HD) (f1 f2:FS) (vs1 qs1 vs2 qs2:Nat→Value) (pls1 pls2:Nat→List (HP × Value)) (wr:World):Prop where
 mem:ApartAt w D1 D2 d1 d2 vs1 qs1 vs2 qs2 pls1 pls2 wr
 rel:Apart h d1 d2
 i1:DInv i d1 f1
 i2:DInv i d2 f2
def ApartEx (w:World) (D1 D2 h i:Nat) (wr:World):Prop:=∃ (d1 d2:HD) (f1 f2:FS) (vs1 qs1 vs2 qs2:Nat→Value) (pls1 pls2:Nat→List (HP × Value)),ApartInv w D1 D2 h i d1 d2 f1 f2 vs1 qs1 vs2 qs2 pls1 pls2 wr
theorem ApartInv.ex {w wr:World} {D1 D2 h i:Nat} {d1 d2:HD} {f1 f2:FS} {vs1 qs1 vs2 qs2:Nat→Value} {pls1 pls2:Nat→List (HP × Value)} (x:ApartInv w D1 D2 h i d1 d2 f1 f2 vs1 qs1 vs2 qs2 pls1 pls2 wr):ApartEx w D1 D2 h i wr:=⟨_,_,_,_,_,_,_,_,_,_,x⟩
theorem act_notOwn {w:World} {D:Nat} {d:HD} {vs qs:Nat→Value} {pls:Nat→List (HP × Value)} (h:DeskAt w D d vs qs pls) {X:Nat} (ht:Typed w X 96):¬ Owns D vs qs X:=fun e => by
 have:=Owns.kind h e ht; revert this; decide
theorem ApartInv.later {w wr wr':World} {D1 D2 h i:Nat} {d1 d2:HD} {f1 f2:FS} {vs1 qs1 vs2 qs2:Nat→Value} {pls1 pls2:Nat→List (HP × Value)} (x:ApartInv w D1 D2 h i d1 d2 f1 f2 vs1 qs1 vs2 qs2 pls1 pls2 wr) (hb:Below wr.heap.size wr wr'):ApartInv w D1 D2 h i d1 d2 f1 f2 vs1 qs1 vs2 qs2 pls1 pls2 wr':={ x with mem:=x.mem.later hb }
theorem ApartInv.idle {w wr:World} {D1 D2 h i:Nat} {d1 d2:HD} {f1 f2:FS} {vs1 qs1 vs2 qs2:Nat→Value} {pls1 pls2:Nat→List (HP × Value)} (x:ApartInv w D1 D2 h i d1 d2 f1 f2 vs1 qs1 vs2 qs2 pls1 pls2 wr):ApartInv w D1 D2 h (i+1) d1 d2 f1 f2 vs1 qs1 vs2 qs2 pls1 pls2 wr:=⟨x.mem,x.rel,x.i1.idle,x.i2.idle⟩
theorem round_any {w wr:World} {i:Nat} {D:Nat} {d:HD} {f:FS} {vs qs:Nat→Value} {pls:Nat→List (HP × Value)} (hi:i≤60) (h:DInv i d f) (hd:DeskAt wr D d vs qs pls) (hb:Below w.heap.size w wr) (hg:ErrT w) (ho:∀ b,Owns D vs qs b→w.heap.size≤b) :
  Calls Tryz.prog 37 #[.pointer (some ⟨D,0,none⟩)] wr fun e w' => ∃ y qs' pls' L,e=.returned y∧RoundAt wr D vs qs d.round d.done y qs' pls' L w':=by
 have hall:=fun j (hj:j < 3) => h.small hi hj
 have ht:=h.time
 have hgw:4 < w.heap.size:=block_lt_of_cell hg
 exact Round_any hd (hg.later hb) (fun e => by have:=ho _ e; omega) (fun j hj => by have:=(hall j hj).left; omega) (fun j hj => by have:=(hall j hj).may; omega) (by omega) (fun j hj => (hall j hj).few)
def said4 (x:Sd × Value):List Value:=[.int .i64 x.1.by_,.int .i64 x.1.num,x.2,.int .i64 x.1.steps]
theorem said4_len (x:Sd × Value):(said4 x).length=4:=rfl
structure SaidsAt (w:World) (B:Nat) (U:List (Sd × Value)) (v:Value):Prop where
 row:w.ownsRow B 103 4 v U.length (U.flatMap said4)
 outs:∀ x ∈ U,∃ og c,x.2=.slice og x.1.out.length c
theorem SaidsAt.zero (w:World) (B:Nat):SaidsAt w B [] (.slice none 0 0):=⟨World.ownsRow_nil _ _ _ _,fun x h => by cases h⟩
theorem SaidsAt.frm {M:Nat→Prop} {w w':World} {B:Nat} {U:List (Sd × Value)} {v:Value} (h:SaidsAt w B U v) (hf:Frm M w w') (h1:∀ b,Typed w b 103→v.ownBlock=some b→¬ M b):SaidsAt w' B U v:=⟨hf.row h.row fun b hb => h1 b (typed_row h.row b hb) hb,h.outs⟩
theorem SaidsAt.later {w w':World} {B:Nat} {U:List (Sd × Value)} {v:Value} (h:SaidsAt w B U v) (hb:Below w.heap.size w w'):SaidsAt w' B U v:=h.frm (M:=fun _ => False) (Frm.of hb) fun _ _ _ h => h
theorem infoSaid:((Tryz.prog).info? 103).map (fun i => (i.zero,i.size,i.bytes))=some (some (.agg #[.int .i64 0,.int .i64 0,.slice none 0 0,.int .i64 0]),4,48):=by kernel_rfl
theorem said_append (B:Nat) (U:List (Sd × Value)) (v:Value) (s:Sd) (og:Option Addr) (co:Nat) (ad c:Nat) (w:World) (hB:B≤w.heap.size) (h:SaidsAt w B U v) (had:∀ j u,(said4 (s,.slice og s.out.length co))[j]?=some u→w.cell? ⟨ad,j,none⟩=some u) (hs:U.length≤1000) :
  ∃ v' w',(Builtin.append_ #[107,107] 107 #[v,.slice (some ⟨ad,0,none⟩) 1 c]).run Tryz.prog w=.ok v' w'∧SaidsAt w' B (U++[(s,.slice og s.out.length co)]) v'∧w.grownBy w' v.ownBlock:=by
 obtain ⟨i0,hi0,hz⟩:=Option.map_eq_some_iff.1 infoSaid
 have hz0:i0.zero=some _:=congrArg (·.1) hz
 have hz1:i0.size=4:=congrArg (·.2.1) hz
 have hz2:i0.bytes=48:=congrArg (·.2.2) hz
 obtain ⟨v',w',hr,h2,h3,_,_⟩:=run_append_own_at (P:=Tryz.prog) (w:=w) B 107 107 103 i0 _ 4 48 Tryz.underlying107 hi0 hz0 hz1 hz2 rfl (by decide) v U.length (U.flatMap said4) h.row ⟨ad,0,none⟩ 1 c (said4 (s,.slice og s.out.length co)) rfl (fun j u hj => by
   have ea:w.cell? (Addr.add ⟨ad,0,none⟩ j)=w.cell? ⟨ad,j,none⟩:=by
    simp [Addr.add]
    split <;> simp_all
   rw [ea]; exact had j u hj) (said_one _ _ _ _ _ _) (by unfold maxLen; omega) (by omega) hB
 refine ⟨v',w',hr,⟨?_,fun y hy => ?_⟩,h3⟩
 ·rw [List.length_append,List.flatMap_append]
  simpa using h2
 ·rcases List.mem_append.1 hy with hy | hy
  ·exact h.outs y hy
  ·rw [List.mem_singleton] at hy
   subst hy
   exact ⟨og,co,rfl⟩
theorem saids_form {w:World} {B:Nat} {U:List (Sd × Value)} {x:Sd × Value} {v:Value} (h:SaidsAt w B U v) {i:Nat} (hi:U[i]?=some x):∃ g cap,v=.slice (some ⟨g,0,none⟩) U.length cap∧g < w.heap.size∧w.rangeAt g (i*4) (said4 x):=by
 have hil:=(List.getElem?_eq_some_iff.1 hi).1
 obtain ⟨og,cap,rfl⟩:=own_form h.row
 obtain ⟨g,rfl⟩:∃ g,og=some ⟨g,0,none⟩:=by
  rcases h.row.2 with ⟨h0,h1⟩ | ⟨g,cap',cur,h0,_⟩
  ·omega
  ·injection h0 with h0; exact ⟨g,h0⟩
 refine ⟨g,cap,rfl,(h.row.lt g rfl).2,fun j u hu => ?_⟩
 have hj:j < 4:=by have:=(List.getElem?_eq_some_iff.1 hu).1; rwa [said4_len] at this
 have:=h.row.cells (g:=g) rfl (i*4+j) u (by rw [fm_at said4_len U i j x hi hj]; exact hu)
 have hadd:∀ k,(⟨g,0,none⟩:Addr).add k=⟨g,k,none⟩:=fun k => by unfold Addr.add; split <;> simp_all
 rwa [hadd] at this
def ulist (h:Nat) (L:List (Int × Sd × Value)):List (Sd × Value):=(L.filter fun y => y.1 == (h:Int)).map (·.2)
theorem ulist_app (h:Nat) (a b:List (Int × Sd × Value)):ulist h (a++b)=ulist h a++ulist h b:=by unfold ulist; rw [List.filter_append,List.map_append]
theorem ulist_saids (h:Nat) (L:List (Int × Sd × Value)):(ulist h L).map (·.1)=saids h (L.map fun x => (x.1,x.2.1)):=by
 unfold ulist saids
 rw [List.filter_map,List.map_map,List.map_map]
 rfl
def asksT (t:Step):Bool:=t.code == 27 && t.num == 2
theorem timeless_of {L:List Step} (h:L.any asksT=false):Timeless L:=fun t ht e => by
 rw [List.any_eq_false] at h
 exact h t ht (by unfold asksT; rw [e.1,e.2]; rfl)
end Go.Proofs.YtpdlmbbgioenoaaGreatDoor.W
namespace Go.Proofs.YtpdlmbbgioenoaaGreatDoor.W
open Go.RowKit Go.Proofs.YtpdlmbbgioenoaaGreatDoor.P
theorem hookApart_big (which:Int) (oa:Option Addr) (n cap:Nat) (h:60 < n) (w:World) :
  Calls Tryz.prog 9 #[.slice oa n cap,.int .i64 which] w fun e w' => e=.returned (.bool true)∧Below w.heap.size w w':=by
 have h3:60 < (n:Int):=by omega
 go_enter Tryz.func9,Tryz.ntmps9
 go_wp2_with fail
 go_ret
 exact ⟨rfl,Below.refl _ _⟩
set_option maxHeartbeats 100000000 in
theorem hookApart_walk (which:Int) (oa:Option Addr) (cap:Nat) (l:List HAct) (n:Nat) (hn:l.length=n) (hcap:n≤cap) (h60:¬ 60 < n) (w:World) (ha:ActsAt w oa l) (hok:∀ x ∈ l,x.Ok w) (hrt:RTabs w) (hg:ErrT w) :
  Calls Tryz.prog 9 #[.slice oa n cap,.int .i64 which] w fun e w' => e=.returned (.bool true)∧Below w.heap.size w w':=by
 have h3:¬ 60 < (n:Int):=by omega
 have HA:=Lib.hid ha
 have HOK:=Lib.hid hok
 have HRT:=Lib.hid hrt
 have HG:=Lib.hid hg
 have HN:=Lib.hid hn
 clear ha hok hrt hg hn
 go_enter Tryz.func9,Tryz.ntmps9
 go_wp2_with fail
 refine (Hooked_yes _ HRT.out HG.out).mono ?_
 rintro e w2 ⟨rfl,hb⟩
 have HB2:=Lib.hid hb
 clear hb
 go_wp2_with fail
 refine (show Calls Tryz.prog 10 #[.agg #[.int .i64 30,.int .i64 30,.int .i64 30]] w2 _ from New_ok (fun _ => 30) (fun k hk => ⟨by decide,by decide⟩) w2).mono ?_
 rintro e w3 ⟨D1,rfl,hD1,hd1,hb⟩
 have HB3:=Lib.hid (HB2.out.trans (hb.mono HB2.out.size))
 have HD1:=Lib.hid hd1
 have hz2:=HB2.out.size
 clear hb hd1
 go_wp2_with fail
 refine (show Calls Tryz.prog 10 #[.agg #[.int .i64 30,.int .i64 30,.int .i64 30]] w3 _ from New_ok (fun _ => 30) (fun k hk => ⟨by decide,by decide⟩) w3).mono ?_
 rintro e w4 ⟨D2,rfl,hD2,hd2,hb⟩
 have ownz:∀ D b,Owns D (fun _ => Value.slice none 0 0) (fun _ => Value.slice none 0 0) b→b=D:=fun D b hb => by
  rcases hb with rfl | ⟨k,_,hb | hb⟩
  ·rfl
  ·cases hb
  ·cases hb
 have hDl:=HD1.out.typed.lt
 obtain ⟨h,hh⟩:∃ h:Nat,u which % 3=h:=⟨(u which % 3).toNat,by have:=u_nonneg which; omega⟩
 have hh3:h < 3:=by omega
 have HI0:=Lib.hid (show ApartInv w D1 D2 h 0 (HD.zero fun _ => 30) (HD.zero fun _ => 30) FS.zero FS.zero _ _ _ _ _ _ w4 from
  ⟨⟨HD1.out.later hb,hd2,fun b hb => by have:=ownz _ _ hb; omega,fun b hb => by have:=ownz _ _ hb; have:=HB3.out.size; omega,fun b hb h2 => by have:=ownz _ _ hb; have:=ownz _ _ h2; omega,HB3.out.trans (hb.mono HB3.out.size)⟩,Apart.zero h _,DInv.zero,DInv.zero⟩)
 clear hb hd2 ownz HD1 HB2 HB3
 go_wp2_with fail
 refine (pick3 which _).mono ?_
 rintro e w4 ⟨rfl,rfl⟩
 rw [hh]
 clear hh
 have h4:(h:Int) < 3:=by omega
 have h0:¬ (h:Int) < 0:=by omega
 go_wp2_with fail
 go_loopw [9] (fun x wr => ∃ (i:Nat) (d1 d2:HD) (f1 f2:FS) (vs1 qs1 vs2 qs2:Nat→Value) (pls1 pls2:Nat→List (HP × Value)),i≤n∧x=.int .i64 i∧ApartInv w D1 D2 h i d1 d2 f1 f2 vs1 qs1 vs2 qs2 pls1 pls2 wr) (fun x _ => n - (intOf x).toNat)
 case atStart => exact ⟨0,_,_,_,_,_,_,_,_,_,_,by omega,rfl,HI0.out⟩
 case round =>
  obtain ⟨i,d1,d2,f1,f2,vs1,qs1,vs2,qs2,pls1,pls2,hi,rfl,hI⟩:=hrel
  have HI:=Lib.hid hI
  clear hI HI0
  by_cases hin:i < n
  ·have hi1:(i:Int) < n:=by omega
   obtain ⟨x,hx⟩:∃ x,l[i]?=some x:=⟨_,List.getElem?_eq_getElem (by have:=HN.out; omega)⟩
   have HX:=Lib.hid (HOK.out x (List.mem_of_getElem? hx))
   obtain ⟨a,rfl,hat⟩:=HA.out i x hx
   have hat:=hat.later HI.out.mem.below
   obtain ⟨c0,c1,c2,c3,c4,c5,c6,c7,c8,c9,c10,c11⟩:=hat
   obtain ⟨k,hkk⟩:∃ k:Nat,u x.hook % 3=k:=⟨(u x.hook % 3).toNat,by have:=u_nonneg x.hook; omega⟩
   have hk3:k < 3:=by omega
   go_upto_region 14 with fail
   generalize hW:World.alloc wr _=w6
   have hb6:Below wr.heap.size wr w6:=hW ▸ (Below.refl wr.heap.size wr).alloc (Nat.le_refl _) _
   have IX:P.Img w6 wr.heap.size 12 (fun j => x.cells.getD j undef):=hW ▸ Img.mk' (heap_alloc_new wr _) (by kernel_rfl)
   have HI6:=Lib.hid (HI.out.later hb6)
   have TX:Typed w6 wr.heap.size 96:=⟨_,hW ▸ heap_alloc_new wr _⟩
   have hXw:w.heap.size≤wr.heap.size:=HI.out.mem.below.size
   clear hW hb6 c0 c1 c2 c3 c4 c5 c6 c7 c8 c9 c10 c11 HI
   generalize wr.heap.size=X at IX TX hXw ⊢
   have d0:w6.cell? ⟨X,0,none⟩=some (.int .i64 x.what):=IX.cell 0 (by omega)
   have d1':w6.cell? ⟨X,1,none⟩=some (.int .i64 x.hook):=IX.cell 1 (by omega)
   have d3:w6.cell? ⟨X,3,none⟩=some (.slice x.oa x.L.length x.cap):=IX.cell 3 (by omega)
   have HIX:=Lib.hid IX
   have HTX:=Lib.hid TX
   clear IX TX
   go_wp2_with fail
   refine (pick3 x.hook _).mono ?_
   rintro e w6 ⟨rfl,rfl⟩
   rw [hkk]
   clear hkk
   have k0:¬ (k:Int) < 0:=by omega
   have k4:(k:Int) < 3:=by omega
   obtain ⟨bl,hbl⟩:∃ bl:Bool,decide (60 < x.L.length)=bl:=⟨_,rfl⟩
   go_upto_region 15 with fail
   go_cut [12] (fun y W => y=.bool bl∧W=w6)
   case first =>
    cases bl
    ·have hl:¬ (60:Int) < (x.L.length:Int):=by have:=of_decide_eq_false hbl; omega
     clear hbl
     go_wp2_with fail
     go_meet
     exact ⟨rfl,rfl⟩
    ·have hl:(60:Int) < (x.L.length:Int):=by have:=of_decide_eq_true hbl; omega
     clear hbl
     go_wp2_with fail
     go_meet
     exact ⟨rfl,rfl⟩
   case rest =>
    obtain ⟨rfl,hwc⟩:=hcut
    subst hwc
    have HBL:=Lib.hid hbl
    clear hbl d0 d1' d3
    go_wp2_with fail
    go_loopw [13,12] (fun y z wz => ∃ j:Nat,j≤x.L.length∧y=.int .i64 j∧z=.bool (bl || (x.L.take j).any asksT)∧ApartInv w D1 D2 h i d1 d2 f1 f2 vs1 qs1 vs2 qs2 pls1 pls2 wz∧P.Img wz X 12 (fun j => x.cells.getD j undef)∧Typed wz X 96) (fun y _ _ => x.L.length - (intOf y).toNat)
    case atStart => exact ⟨0,Nat.zero_le _,rfl,by simp,HI6.out,HIX.out,HTX.out⟩
    case round =>
     obtain ⟨j,hj,rfl,rfl,hI7,hX7,hT7⟩:=hrel
     have HT7:=Lib.hid hT7
     have HI7:=Lib.hid hI7
     have HX7:=Lib.hid hX7
     have d3:wr.cell? ⟨X,3,none⟩=some (.slice x.oa x.L.length x.cap):=hX7.cell 3 (by omega)
     clear hI7 hX7 hT7 HI6 HIX HTX
     by_cases hjl:j < x.L.length
     ·as_aux_lemma =>
       have hjl':(j:Int) < x.L.length:=by omega
       obtain ⟨ca,hca,hcs⟩:=(HX.out.at_.later HI7.out.mem.below) (by omega)
       have hstep:=hcs j hjl
       obtain ⟨t0,-,-,-,-,t5⟩:=hstep
       have hnx:(bl || (x.L.take (j+1)).any asksT)=((bl || (x.L.take j).any asksT) || asksT (nth x.L j)):=by
        have:x.L[j]?=some (nth x.L j):=by unfold P.nth; rw [List.getD_eq_getElem?_getD,List.getElem?_eq_getElem hjl]; rfl
        rw [List.take_add_one,this,Option.toList_some,List.any_append,Bool.or_assoc]; simp
       rw [hca] at d3
       have HNX:=Lib.hid hnx
       have HLN:=Lib.hid (show x.L.length≤x.cap from HX.out.cap)
       clear hcs hnx hca
       generalize (bl || (x.L.take j).any asksT)=bj at HNX ⊢
       have hin6:j < 9223372036854775807:=by have h1:=HX.out.max; unfold maxLen at h1; omega
       cases bj
       ·by_cases q27:(nth x.L j).code=27
        ·by_cases q2:(nth x.L j).num=2
         ·have hq:asksT (nth x.L j)=true:=by unfold asksT; rw [q27,q2]; rfl
          rw [q27] at t0
          rw [q2] at t5
          clear q27 q2
          go_wp2_with fail
          go_roundw
          case rel => exact ⟨j+1,by omega,by go_num,by rw [HNX.out,hq]; rfl,HI7.out,HX7.out,HT7.out⟩
          case measure => simp [intOf]; omega
         ·have hq:asksT (nth x.L j)=false:=by unfold asksT; simp [q2]
          have b2:((nth x.L j).num == 2)=false:=by simp [q2]
          rw [q27] at t0
          clear q27 q2
          go_wp2_with fail
          go_roundw
          case rel => exact ⟨j+1,by omega,by go_num,by rw [HNX.out,hq]; rfl,HI7.out,HX7.out,HT7.out⟩
          case measure => simp [intOf]; omega
        ·have hq:asksT (nth x.L j)=false:=by unfold asksT; simp [q27]
         have b27:((nth x.L j).code == 27)=false:=by simp [q27]
         clear q27
         go_wp2_with fail
         go_roundw
         case rel => exact ⟨j+1,by omega,by go_num,by rw [HNX.out,hq]; rfl,HI7.out,HX7.out,HT7.out⟩
         case measure => simp [intOf]; omega
       ·have hq:asksT (nth x.L j)=asksT (nth x.L j):=rfl
        go_wp2_with fail
        go_roundw
        case rel => exact ⟨j+1,by omega,by go_num,by rw [HNX.out,hq]; rfl,HI7.out,HX7.out,HT7.out⟩
        case measure => simp [intOf]; omega
     ·obtain rfl:j=x.L.length:=by omega
      rw [List.take_length]
      obtain ⟨ak,has⟩:∃ ak,(bl || x.L.any asksT)=ak:=⟨_,rfl⟩
      rw [has]
      have HTL:=Lib.hid (show ak=false→Timeless x.L from fun e => timeless_of (by rw [← has,Bool.or_eq_false_iff] at e; exact e.2))
      clear has
      have d0:wr.cell? ⟨X,0,none⟩=some (.int .i64 x.what):=HX7.out.cell 0 (by omega)
      have d2':wr.cell? ⟨X,2,none⟩=some (.int .i64 x.rank):=HX7.out.cell 2 (by omega)
      have d4:wr.cell? ⟨X,4,none⟩=some (.int .i64 (x.told 0)):=HX7.out.cell 4 (by omega)
      have d5:wr.cell? ⟨X,5,none⟩=some (.int .i64 (x.told 1)):=HX7.out.cell 5 (by omega)
      have d6:wr.cell? ⟨X,6,none⟩=some (.int .i64 (x.told 2)):=HX7.out.cell 6 (by omega)
      have d7:wr.cell? ⟨X,7,none⟩=some (.int .i64 (x.told 3)):=HX7.out.cell 7 (by omega)
      have d8:wr.cell? ⟨X,8,none⟩=some (.int .i64 (x.told 4)):=HX7.out.cell 8 (by omega)
      have d9:wr.cell? ⟨X,9,none⟩=some (.int .i64 (x.told 5)):=HX7.out.cell 9 (by omega)
      have d10:wr.cell? ⟨X,10,none⟩=some (.int .i64 (x.told 6)):=HX7.out.cell 10 (by omega)
      have d11:wr.cell? ⟨X,11,none⟩=some (.int .i64 (x.told 7)):=HX7.out.cell 11 (by omega)
      go_upto_block 4 with fail
      go_cut [14] (fun _ W => ApartEx w D1 D2 h (i+1) W)
      case first =>
       by_cases e0:x.what=0
       ·as_aux_lemma =>
         have b0:(x.what == 0)=true:=by simp [e0]
         clear e0
         have EV:=Event_all HI7.out.mem.desk1 k hk3 x.told
         unfold t8 at EV
         have HEV:=Lib.hid EV
         clear EV
         go_wp2_with fail
         refine HEV.out.mono ?_
         rintro e w7 ⟨⟨er,rfl⟩,qs',hd,hf,ho⟩
         have HM8:=Lib.hid (HI7.out.mem.step1 hf hd ho)
         have HX8:=Lib.hid (hf.img HX7.out (by omega) (act_notOwn HI7.out.mem.desk1 HT7.out))
         obtain ⟨f1',hf1⟩:=HI7.out.i1.event hk3 x.told
         have HF1:=Lib.hid hf1
         have HRL:=Lib.hid (HI7.out.rel.event k x.told)
         clear hd hf ho hf1 d0 d2' d3 d4 d5 d6 d7 d8 d9 d10 d11 HEV
         by_cases hkh:k=h
         ·subst hkh
          have d4:w7.cell? ⟨X,4,none⟩=some (.int .i64 (x.told 0)):=HX8.out.cell 4 (by omega)
          have d5:w7.cell? ⟨X,5,none⟩=some (.int .i64 (x.told 1)):=HX8.out.cell 5 (by omega)
          have d6:w7.cell? ⟨X,6,none⟩=some (.int .i64 (x.told 2)):=HX8.out.cell 6 (by omega)
          have d7:w7.cell? ⟨X,7,none⟩=some (.int .i64 (x.told 3)):=HX8.out.cell 7 (by omega)
          have d8:w7.cell? ⟨X,8,none⟩=some (.int .i64 (x.told 4)):=HX8.out.cell 8 (by omega)
          have d9:w7.cell? ⟨X,9,none⟩=some (.int .i64 (x.told 5)):=HX8.out.cell 9 (by omega)
          have d10:w7.cell? ⟨X,10,none⟩=some (.int .i64 (x.told 6)):=HX8.out.cell 10 (by omega)
          have d11:w7.cell? ⟨X,11,none⟩=some (.int .i64 (x.told 7)):=HX8.out.cell 11 (by omega)
          have EV:=Event_all HM8.out.desk2 k hk3 x.told
          unfold t8 at EV
          have HEV:=Lib.hid EV
          clear EV
          go_wp2_with fail
          refine HEV.out.mono ?_
          rintro e w8 ⟨⟨er2,rfl⟩,qs2',hd,hf,ho⟩
          obtain ⟨f2',hf2⟩:=HI7.out.i2.event hk3 x.told
          have hrl:=HRL.out
          simp only [if_true] at hrl
          have HE:=Lib.hid (ApartInv.ex ⟨HM8.out.step2 hf hd ho,hrl,HF1.out,hf2⟩)
          clear hd hf ho hf2 hrl
          go_wp2_with fail
          go_meet
          exact HE.out
         ·have hkb:((k:Int) == (h:Int))=false:=by simp; omega
          have hkb2:¬ (k:Int)=(h:Int):=by omega
          have hrl:=HRL.out
          rw [if_neg hkh] at hrl
          have HE:=Lib.hid (ApartInv.ex ⟨HM8.out,hrl,HF1.out,HI7.out.i2.idle⟩)
          clear hrl hkh
          go_wp2_with fail
          go_meet
          exact HE.out
       by_cases e2:x.what=2
       ·have b0:(x.what == 0)=false:=by simp [e0]
        have b2:(x.what == 2)=true:=by simp [e2]
        clear e0 e2
        cases ak
        ·as_aux_lemma =>
          go_wp2_with fail
          refine (Chain_in HI7.out.mem.desk1 k hk3).mono ?_
          rintro e wr ⟨rfl,rfl⟩
          go_wp2_with fail
          refine (Chain_in HI7.out.mem.desk2 k hk3).mono ?_
          rintro e wr ⟨rfl,rfl⟩
          go_wp2_with fail
          refine (Attach_all HI7.out.mem.desk1 k hk3 x HX.out HI7.out.mem.below (fun b hb e => by have:=HI7.out.mem.own1 b e; omega) (HG.out.later HI7.out.mem.below) (by have:=HI7.out.i1.next k hk3; omega)).mono ?_
          rintro e w7 ⟨⟨er,rfl⟩,vs',pls',hd,hf,ho⟩
          have HM8:=Lib.hid (HI7.out.mem.step1 hf hd ho)
          have HX8:=Lib.hid (hf.img HX7.out (by omega) (act_notOwn HI7.out.mem.desk1 HT7.out))
          have HF1:=Lib.hid (HI7.out.i1.attach hk3 x.L x.rank)
          have HRL:=Lib.hid (HI7.out.rel.attach k (HTL.out (by first | rfl | trivial)) x.rank)
          clear hd hf ho d0 d2' d3 d4 d5 d6 d7 d8 d9 d10 d11
          by_cases hkh:k=h
          ·subst hkh
           have d2':w7.cell? ⟨X,2,none⟩=some (.int .i64 x.rank):=HX8.out.cell 2 (by omega)
           have d3:w7.cell? ⟨X,3,none⟩=some (.slice x.oa x.L.length x.cap):=HX8.out.cell 3 (by omega)
           go_wp2_with fail
           refine (Attach_all HM8.out.desk2 k hk3 x HX.out HM8.out.below (fun b hb e => by have:=HM8.out.own2 b e; omega) (HG.out.later HM8.out.below) (by have:=HI7.out.i2.next k hk3; omega)).mono ?_
           rintro e w8 ⟨⟨er2,rfl⟩,vs2',pls2',hd,hf,ho⟩
           have hrl:=HRL.out
           simp only [if_true] at hrl
           have HE:=Lib.hid (ApartInv.ex ⟨HM8.out.step2 hf hd ho,hrl,HF1.out,HI7.out.i2.attach hk3 x.L x.rank⟩)
           clear hd hf ho hrl
           go_wp2_with fail
           go_meet
           exact HE.out
          ·have hkb:((k:Int) == (h:Int))=false:=by simp; omega
           have hkb2:¬ (k:Int)=(h:Int):=by omega
           have hrl:=HRL.out
           rw [if_neg hkh] at hrl
           have HE:=Lib.hid (ApartInv.ex ⟨HM8.out,hrl,HF1.out,HI7.out.i2.idle⟩)
           clear hrl hkh
           go_wp2_with fail
           go_meet
           exact HE.out
        ·go_wp2_with fail
         refine ⟨⟨i+1,d1,d2,f1,f2,vs1,qs1,vs2,qs2,pls1,pls2,by omega,by go_num,HI7.out.idle⟩,?_⟩
         show n - ((i:Int)+1).toNat < n - (i:Int).toNat
         omega
       by_cases e1:x.what=1
       ·as_aux_lemma =>
         have b0:(x.what == 0)=false:=by simp [e0]
         have b1:(x.what == 1)=true:=by simp [e1]
         have b2:(x.what == 2)=false:=by simp [e2]
         clear e0 e1 e2 d2' d3 d4 d5 d6 d7 d8 d9 d10 d11 HX7 HT7
         go_wp2_with fail
         refine (round_any (by omega) HI7.out.i1 HI7.out.mem.desk1 HI7.out.mem.below HG.out HI7.out.mem.own1).mono ?_
         rintro e w7 ⟨y1,qs1',pls1',L1,rfl,hR1⟩
         obtain ⟨oy1,cy1,rfl⟩:=own_form hR1.dones.row
         have HM8:=Lib.hid (HI7.out.mem.step1 hR1.frm hR1.desk hR1.own)
         have hBw:=HI7.out.mem.below.size
         have hBz:=hR1.frm.size
         have hdn:=hR1.dones
         have HE1:=Lib.hid hR1.eq
         have hL1:L1.length≤60:=by
          have e1:L1.length=d1.done.length:=by rw [← hR1.eq,List.length_map]
          have e2:d1.done.length≤60:=hdDones_len d1 HI7.out.i1.inv.few 3 (by omega)
          omega
         have HI1:=Lib.hid HI7.out.i1
         have HI2:=Lib.hid HI7.out.i2
         have HRL:=Lib.hid HI7.out.rel
         obtain ⟨B,hB⟩:∃ B,wr.heap.size=B:=⟨_,rfl⟩
         rw [hB] at hdn hBw hBz
         have HD1:=Lib.hid hdn
         clear hR1 hdn hB HI7 d0
         go_wp2_with fail
         go_loopw [157,18] (fun y u wz => ∃ j:Nat,j≤L1.length∧y=.int .i64 j∧SaidsAt wz B (ulist h (L1.take j)) u∧ApartAt w D1 D2 d1.round d2 vs1 qs1' vs2 qs2 pls1' pls2 wz∧DonesAt wz B L1 (.slice oy1 L1.length cy1)∧B≤wz.heap.size) (fun y _ _ => L1.length - (intOf y).toNat)
         case atStart => exact ⟨0,Nat.zero_le _,rfl,SaidsAt.zero _ _,HM8.out,HD1.out,hBz⟩
         case round =>
          obtain ⟨j,hj,rfl,hS,hM,hD,hBr⟩:=hrel
          obtain ⟨ou,cu,rfl⟩:=own_form hS.row
          have HS:=Lib.hid hS
          have HM:=Lib.hid hM
          have HD:=Lib.hid hD
          clear hS hM hD HM8 HD1
          by_cases hjl:j < L1.length
          ·as_aux_lemma =>
            have hjl':(j:Int) < L1.length:=by omega
            have hj60:j≤60:=by omega
            obtain ⟨z,hz⟩:∃ z,L1[j]?=some z:=⟨_,List.getElem?_eq_getElem hjl⟩
            obtain ⟨g,cap2,heq,hgl,hrng⟩:=dones_form HD.out hz
            obtain ⟨zh,zs,zo⟩:=z
            obtain ⟨og,co,ho⟩:=own_form (HD.out.outs _ (List.mem_of_getElem? hz))
            simp only at ho
            subst ho
            simp only [Value.slice.injEq,true_and] at heq
            obtain ⟨rfl,rfl⟩:=heq
            have q0:_=some (Value.int .i64 zh):=hrng 0 _ rfl
            have q1:_=some (Value.int .i64 zs.by_):=hrng 1 _ rfl
            have q2:_=some (Value.int .i64 zs.num):=hrng 2 _ rfl
            have q3:_=some (Value.slice og zs.out.length co):=hrng 3 _ rfl
            have q4:_=some (Value.int .i64 zs.steps):=hrng 4 _ rfl
            rw [Nat.add_zero] at q0
            have HTK:=Lib.hid (show ulist h (L1.take (j+1))=ulist h (L1.take j)++ulist h [(zh,zs,.slice og zs.out.length co)] by rw [List.take_add_one,hz,Option.toList_some,ulist_app])
            have HUL:=Lib.hid (show (ulist h (L1.take j)).length≤60 by
             unfold ulist
             rw [List.length_map]
             exact Nat.le_trans (List.length_filter_le _ _) (by rw [List.length_take]; omega))
            clear hrng hz
            go_upto_region 39 with fail
            generalize hW:World.alloc wr _=w8
            have hb8:Below wr.heap.size wr w8:=hW ▸ (Below.refl wr.heap.size wr).alloc (Nat.le_refl _) _
            have IY:P.Img w8 wr.heap.size 5 (fun j => (done5 (zh,zs,.slice og zs.out.length co)).getD j undef):=hW ▸ Img.mk' (heap_alloc_new wr _) (by kernel_rfl)
            have y0:w8.cell? ⟨wr.heap.size,0,none⟩=some (.int .i64 zh):=IY.cell 0 (by omega)
            have y1:w8.cell? ⟨wr.heap.size,1,none⟩=some (.int .i64 zs.by_):=IY.cell 1 (by omega)
            have y2:w8.cell? ⟨wr.heap.size,2,none⟩=some (.int .i64 zs.num):=IY.cell 2 (by omega)
            have y3:w8.cell? ⟨wr.heap.size,3,none⟩=some (.slice og zs.out.length co):=IY.cell 3 (by omega)
            have y4:w8.cell? ⟨wr.heap.size,4,none⟩=some (.int .i64 zs.steps):=IY.cell 4 (by omega)
            have HS8:=Lib.hid (HS.out.later hb8)
            have HM8:=Lib.hid (HM.out.later hb8)
            have HD8:=Lib.hid (HD.out.later hb8)
            have hz8:=hb8.size
            clear hW hb8 IY q0 q1 q2 q3 q4 HS HM HD
            by_cases hzh:zh=(h:Int)
            ·subst hzh
             have hbA:Below w8.heap.size w8 (w8.alloc (.cells #[.int .i64 zs.by_,.int .i64 zs.num,.slice og zs.out.length co,.int .i64 zs.steps] 103)):=(Below.refl w8.heap.size w8).alloc (Nat.le_refl _) _
             obtain ⟨v9,w9,hap,hs9,hg9⟩:=said_append B (ulist h (L1.take j)) (.slice ou (ulist h (L1.take j)).length cu) zs og co w8.heap.size 1 _ (by have:=hbA.size; omega) (HS8.out.later hbA) (fun j u hj => (cell_of_row _ w8.heap.size j _ _ (0,0) (heap_alloc_new w8 _)).trans (by simpa [said4] using hj)) (by have:=HUL.out; omega)
             have hf9:=Frm.grown hg9 (M:=fun b => (Value.slice ou (ulist h (L1.take j)).length cu).ownBlock=some b) fun k e => e
             have HM9:=Lib.hid ((HM8.out.later hbA).other hf9 103 (fun b e => typed_row (HS8.out.later hbA).row b e) (by decide) (fun b e => by have:=(HS8.out.row.lt b e).1; omega))
             have HD9:=Lib.hid ((HD8.out.later hbA).frm hf9 (fun b hb e => ((typed_row (HD8.out.later hbA).row b hb).ne (typed_row (HS8.out.later hbA).row b e) (by decide)) rfl) (fun b ht e => (ht.ne (typed_row (HS8.out.later hbA).row b e) (by decide)) rfl))
             have hz9:=hf9.size
             have hzA:=hbA.size
             obtain ⟨og9,cap9,rfl⟩:=own_form hs9.row
             have HS9:=Lib.hid hs9
             have HAP:=Lib.hid hap
             clear hap hs9 hg9 hf9 hbA
             go_wp2_with (at_builtin; refine wpList_append_by _ rfl _ _ 107 107 rfl _ _ rfl rfl HAP.out ?_)
             refine ⟨⟨j+1,by omega,by go_num,?_,HM9.out,HD9.out,by omega⟩,?_⟩
             ·rw [HTK.out]
              have e1:ulist h [((h:Int),zs,Value.slice og zs.out.length co)]=[(zs,.slice og zs.out.length co)]:=by unfold ulist; simp
              rw [e1]
              have:=HS9.out
              rw [List.length_append] at this
              exact this
             ·show L1.length - ((j:Int)+1).toNat < L1.length - (j:Int).toNat
              omega
            ·have hzb:(zh == (h:Int))=false:=by simp [hzh]
             have e1:ulist h [(zh,zs,Value.slice og zs.out.length co)]=[]:=by unfold ulist; simp [hzh]
             have HTK2:=Lib.hid (HTK.out.trans (by rw [e1,List.append_nil]))
             clear hzh e1 HTK
             go_wp2_with fail
             refine ⟨⟨j+1,by omega,by go_num,by rw [HTK2.out]; exact HS8.out,HM8.out,HD8.out,by omega⟩,?_⟩
             show L1.length - ((j:Int)+1).toNat < L1.length - (j:Int).toNat
             omega
          ·as_aux_lemma =>
            obtain rfl:j=L1.length:=by omega
            have hU:=HS.out
            rw [List.take_length] at hU
            obtain ⟨U,hUe⟩:∃ U,ulist h L1=U:=⟨_,rfl⟩
            rw [List.take_length,hUe]
            rw [hUe] at hU
            have hU60:U.length≤60:=by
             rw [← hUe]
             unfold ulist
             rw [List.length_map]
             exact Nat.le_trans (List.length_filter_le _ _) hL1
            have HUE:=Lib.hid (show U.map (·.1)=saids h d1.done by rw [← hUe,ulist_saids,HE1.out])
            have HU:=Lib.hid hU
            clear hU hUe HS HD
            go_wp2_with fail
            refine (round_any (by omega) HI2.out HM.out.desk2 HM.out.below HG.out HM.out.own2).mono ?_
            rintro e w9 ⟨yy2,qs2',pls2',L2,rfl,hR2⟩
            obtain ⟨oy2,cy2,rfl⟩:=own_form hR2.dones.row
            have HM9:=Lib.hid (HM.out.step2 hR2.frm hR2.desk hR2.own)
            have HU9:=Lib.hid (HU.out.frm hR2.frm fun b ht _ e => by have:=Owns.kind HM.out.desk2 e ht; revert this; decide)
            have hul:∀ b,(Value.slice ou U.length cu).ownBlock=some b→b < wr.heap.size:=fun b hb => (HU.out.row.lt b hb).2
            have hdn:=hR2.dones
            have HE2:=Lib.hid hR2.eq
            have hL2:L2.length≤60:=by
             have e1:L2.length=d2.done.length:=by rw [← hR2.eq,List.length_map]
             have e2:d2.done.length≤60:=hdDones_len d2 HI2.out.inv.few 3 (by omega)
             omega
            have hBz2:=hR2.frm.size
            obtain ⟨B2,hB2⟩:∃ B2,wr.heap.size=B2:=⟨_,rfl⟩
            rw [hB2] at hdn hul hBr hBz2
            have HUL:=Lib.hid hul
            have HD2:=Lib.hid hdn
            have HAD:=Lib.hid HRL.out.done
            clear hR2 hdn hB2 hul HU HM
            go_wp2_with fail
            go_loopw [174,19] (fun y v wz => ∃ j:Nat,j≤L2.length∧y=.int .i64 j∧SaidsAt wz B2 ((L2.take j).map (·.2)) v∧SaidsAt wz B U (.slice ou U.length cu)∧ApartAt w D1 D2 d1.round d2.round vs1 qs1' vs2 qs2' pls1' pls2' wz∧DonesAt wz B2 L2 (.slice oy2 L2.length cy2)∧B2≤wz.heap.size) (fun y _ _ => L2.length - (intOf y).toNat)
            case atStart => exact ⟨0,Nat.zero_le _,rfl,SaidsAt.zero _ _,HU9.out,HM9.out,HD2.out,hBz2⟩
            case round =>
             obtain ⟨j,hj,rfl,hS,hU,hM,hD,hBr2⟩:=hrel
             obtain ⟨ov,cv,rfl⟩:=own_form hS.row
             have HS:=Lib.hid hS
             have HU:=Lib.hid hU
             have HM:=Lib.hid hM
             have HD:=Lib.hid hD
             clear hS hU hM hD HM9 HD2 HU9
             by_cases hjl:j < L2.length
             ·as_aux_lemma =>
               have hjl':(j:Int) < L2.length:=by omega
               have hj60:j≤60:=by omega
               obtain ⟨z,hz⟩:∃ z,L2[j]?=some z:=⟨_,List.getElem?_eq_getElem hjl⟩
               obtain ⟨g,cap2,heq,hgl,hrng⟩:=dones_form HD.out hz
               obtain ⟨zh,zs,zo⟩:=z
               obtain ⟨og,co,ho⟩:=own_form (HD.out.outs _ (List.mem_of_getElem? hz))
               simp only at ho
               subst ho
               simp only [Value.slice.injEq,true_and] at heq
               obtain ⟨rfl,rfl⟩:=heq
               have hzh:zh=(h:Int):=HAD.out.2 (zh,zs) (by rw [← HE2.out]; exact List.mem_map.2 ⟨_,List.mem_of_getElem? hz,rfl⟩)
               subst hzh
               have q0:_=some (Value.int .i64 (h:Int)):=hrng 0 _ rfl
               have q1:_=some (Value.int .i64 zs.by_):=hrng 1 _ rfl
               have q2:_=some (Value.int .i64 zs.num):=hrng 2 _ rfl
               have q3:_=some (Value.slice og zs.out.length co):=hrng 3 _ rfl
               have q4:_=some (Value.int .i64 zs.steps):=hrng 4 _ rfl
               rw [Nat.add_zero] at q0
               have HTK:=Lib.hid (show (L2.take (j+1)).map (·.2)=(L2.take j).map (·.2)++[(zs,.slice og zs.out.length co)] by rw [List.take_add_one,hz,Option.toList_some,List.map_append]; rfl)
               have HVL:=Lib.hid (show ((L2.take j).map (·.2)).length=j by rw [List.length_map,List.length_take]; omega)
               obtain ⟨V,hV⟩:∃ V,(L2.take j).map (·.2)=V:=⟨_,rfl⟩
               rw [hV] at HS HTK HVL ⊢
               clear hrng hz hV
               go_upto_region 45 with fail
               generalize hW:World.alloc wr _=w8
               have hb8:Below wr.heap.size wr w8:=hW ▸ (Below.refl wr.heap.size wr).alloc (Nat.le_refl _) _
               have IY:P.Img w8 wr.heap.size 5 (fun j => (done5 ((h:Int),zs,.slice og zs.out.length co)).getD j undef):=hW ▸ Img.mk' (heap_alloc_new wr _) (by kernel_rfl)
               have y0:w8.cell? ⟨wr.heap.size,0,none⟩=some (.int .i64 (h:Int)):=IY.cell 0 (by omega)
               have y1:w8.cell? ⟨wr.heap.size,1,none⟩=some (.int .i64 zs.by_):=IY.cell 1 (by omega)
               have y2:w8.cell? ⟨wr.heap.size,2,none⟩=some (.int .i64 zs.num):=IY.cell 2 (by omega)
               have y3:w8.cell? ⟨wr.heap.size,3,none⟩=some (.slice og zs.out.length co):=IY.cell 3 (by omega)
               have y4:w8.cell? ⟨wr.heap.size,4,none⟩=some (.int .i64 zs.steps):=IY.cell 4 (by omega)
               have HS8:=Lib.hid (HS.out.later hb8)
               have HU8:=Lib.hid (HU.out.later hb8)
               have HM8:=Lib.hid (HM.out.later hb8)
               have HD8:=Lib.hid (HD.out.later hb8)
               have hz8:=hb8.size
               clear hW hb8 IY q0 q1 q2 q3 q4 HS HM HD HU
               have hbA:Below w8.heap.size w8 (w8.alloc (.cells #[.int .i64 zs.by_,.int .i64 zs.num,.slice og zs.out.length co,.int .i64 zs.steps] 103)):=(Below.refl w8.heap.size w8).alloc (Nat.le_refl _) _
               obtain ⟨v9,w9,hap,hs9,hg9⟩:=said_append B2 V (.slice ov V.length cv) zs og co w8.heap.size 1 _ (by have:=hbA.size; omega) (HS8.out.later hbA) (fun j u hj => (cell_of_row _ w8.heap.size j _ _ (0,0) (heap_alloc_new w8 _)).trans (by simpa [said4] using hj)) (by have:=HVL.out; omega)
               have hf9:=Frm.grown hg9 (M:=fun b => (Value.slice ov V.length cv).ownBlock=some b) fun k e => e
               have HM9:=Lib.hid ((HM8.out.later hbA).other hf9 103 (fun b e => typed_row (HS8.out.later hbA).row b e) (by decide) (fun b e => by have:=(HS8.out.row.lt b e).1; omega))
               have HU9:=Lib.hid ((HU8.out.later hbA).frm hf9 (fun b _ hb e => by have:=(HS8.out.row.lt b e).1; have:=HUL.out b hb; omega))
               have HD9:=Lib.hid ((HD8.out.later hbA).frm hf9 (fun b hb e => ((typed_row (HD8.out.later hbA).row b hb).ne (typed_row (HS8.out.later hbA).row b e) (by decide)) rfl) (fun b ht e => (ht.ne (typed_row (HS8.out.later hbA).row b e) (by decide)) rfl))
               have hz9:=hf9.size
               have hzA:=hbA.size
               obtain ⟨og9,cap9,rfl⟩:=own_form hs9.row
               have HS9:=Lib.hid hs9
               have HAP:=Lib.hid hap
               clear hap hs9 hg9 hf9 hbA
               go_wp2_with (at_builtin; refine wpList_append_by _ rfl _ _ 107 107 rfl _ _ rfl rfl HAP.out ?_)
               refine ⟨⟨j+1,by omega,by go_num,?_,HU9.out,HM9.out,HD9.out,by omega⟩,?_⟩
               ·rw [HTK.out]
                have:=HS9.out
                rw [List.length_append] at this
                exact this
               ·show L2.length - ((j:Int)+1).toNat < L2.length - (j:Int).toNat
                omega
             ·as_aux_lemma =>
               obtain rfl:j=L2.length:=by omega
               obtain ⟨V,hVe⟩:∃ V,L2.map (·.2)=V:=⟨_,rfl⟩
               have hS:=HS.out
               rw [List.take_length,hVe] at hS
               rw [List.take_length,hVe]
               have hUV:U.map (·.1)=V.map (·.1):=by
                rw [HUE.out,HAD.out.1,← hVe,← HE2.out,List.map_map,List.map_map]; rfl
               have hlen:V.length=U.length:=by have:=congrArg List.length hUV; simpa using this.symm
               have HV:=Lib.hid hS
               have HUV:=Lib.hid hUV
               rw [hlen]
               clear hS hVe hUV HS HD
               go_wp2_with fail
               go_loopw [24] (fun y wz => ∃ j:Nat,j≤U.length∧y=.int .i64 j∧SaidsAt wz B U (.slice ou U.length cu)∧SaidsAt wz B2 V (.slice ov U.length cv)∧ApartAt w D1 D2 d1.round d2.round vs1 qs1' vs2 qs2' pls1' pls2' wz) (fun y _ => U.length - (intOf y).toNat)
               case atStart => exact ⟨0,Nat.zero_le _,rfl,HU.out,hlen ▸ HV.out,HM.out⟩
               case round =>
                obtain ⟨j,hj,rfl,hU,hV,hM⟩:=hrel
                have HU1:=Lib.hid hU
                have HV1:=Lib.hid hV
                have HM1:=Lib.hid hM
                clear HU HV HM
                by_cases hjl:j < U.length
                ·as_aux_lemma =>
                  have hjl':(j:Int) < U.length:=by omega
                  have hj60:j≤60:=by omega
                  obtain ⟨p1,hp1⟩:∃ p,U[j]?=some p:=⟨_,List.getElem?_eq_getElem hjl⟩
                  obtain ⟨p2,hp2⟩:∃ p,V[j]?=some p:=⟨_,List.getElem?_eq_getElem (by omega)⟩
                  have heq:p1.1=p2.1:=by
                   have:=congrArg (·[j]?) HUV.out
                   simp only [List.getElem?_map,hp1,hp2,Option.map_some] at this
                   exact Option.some.inj this
                  obtain ⟨a1,b1',ho1⟩:=hU.outs _ (List.mem_of_getElem? hp1)
                  obtain ⟨a2,b2',ho2⟩:=hV.outs _ (List.mem_of_getElem? hp2)
                  obtain ⟨g1,cap1,he1,hgl1,hr1⟩:=saids_form hU hp1
                  rw [← hlen] at hV
                  obtain ⟨g2,cap2,he2,hgl2,hr2⟩:=saids_form hV hp2
                  obtain ⟨s1,o1⟩:=p1
                  obtain ⟨s2,o2⟩:=p2
                  simp only at heq ho1 ho2
                  subst heq ho1 ho2
                  simp only [Value.slice.injEq,true_and] at he1 he2
                  obtain ⟨rfl,rfl⟩:=he1
                  obtain ⟨rfl,rfl⟩:=he2
                  have q0:_=some (Value.int .i64 s1.by_):=hr1 0 _ rfl
                  have q1:_=some (Value.int .i64 s1.num):=hr1 1 _ rfl
                  have q2:_=some (Value.slice a1 s1.out.length b1'):=hr1 2 _ rfl
                  have q3:_=some (Value.int .i64 s1.steps):=hr1 3 _ rfl
                  have r0:_=some (Value.int .i64 s1.by_):=hr2 0 _ rfl
                  have r1:_=some (Value.int .i64 s1.num):=hr2 1 _ rfl
                  have r2:_=some (Value.slice a2 s1.out.length b2'):=hr2 2 _ rfl
                  have r3:_=some (Value.int .i64 s1.steps):=hr2 3 _ rfl
                  rw [Nat.add_zero] at q0 r0
                  clear hU hV hM hr1 hr2 hp1 hp2
                  go_upto_region 54 with fail
                  go_cut [250] (fun b W => b=.bool false∧SaidsAt W B U (.slice (some ⟨g1,0,none⟩) U.length cu)∧SaidsAt W B2 V (.slice (some ⟨g2,0,none⟩) U.length cv)∧ApartAt w D1 D2 d1.round d2.round vs1 qs1' vs2 qs2' pls1' pls2' W)
                  case first =>
                   go_quiet (fail)
                   all_goals
                    go_wp2_with fail
                    go_meet
                    exact ⟨rfl,HU1.out.later (below_drewN _ _),HV1.out.later (below_drewN _ _),HM1.out.later (below_drewN _ _)⟩
                  case rest =>
                   obtain ⟨rfl,hU2,hV2,hM2⟩:=hcut
                   have HU2:=Lib.hid hU2
                   have HV2:=Lib.hid hV2
                   have HM2:=Lib.hid hM2
                   clear hU2 hV2 hM2 q0 q1 q2 q3 r0 r1 r2 r3 HU1 HV1 HM1
                   go_wp2_with fail
                   go_roundw
                   case rel => exact ⟨j+1,by omega,by go_num,HU2.out,HV2.out,HM2.out⟩
                   case measure => simp [intOf]; omega
                ·obtain rfl:j=U.length:=by omega
                 have HE:=Lib.hid (ApartInv.ex ⟨HM1.out,HRL.out.round,HI1.out.round,HI2.out.round⟩)
                 clear hU hV hM
                 go_wp2_with fail
                 go_meet
                 exact HE.out
       ·as_aux_lemma =>
         have b0:(x.what == 0)=false:=by simp [e0]
         have b1:(x.what == 1)=false:=by simp [e1]
         have b2:(x.what == 2)=false:=by simp [e2]
         clear e0 e1 e2
         have HE:=Lib.hid HI7.out.idle.ex
         go_wp2_with fail
         go_meet
         exact HE.out
      case rest =>
       as_aux_lemma =>
        obtain ⟨dd1,dd2,f1',f2',vs1',qs1',vs2',qs2',pls1',pls2',hI8⟩:=hcut
        obtain ⟨w8,hw8⟩:∃ z,z=wc:=⟨_,rfl⟩; subst hw8
        have HI8:=Lib.hid hI8
        clear hI8 d0 d2' d3 d4 d5 d6 d7 d8 d9 d10 d11 HI7 HX7 HT7 k0 k4
        have HW2:=Lib.hid (show Calls Tryz.prog 15 #[.pointer (some ⟨D2,0,none⟩),.int .i64 h] w8 (fun e w' => e=.returned (.int .i64 ((dd1.q h).length:Int))∧w'=w8) from by have:=Waits_in HI8.out.mem.desk2 h hh3; rw [HI8.out.rel.q] at this; exact this)
        have HL2:=Lib.hid (show Calls Tryz.prog 16 #[.pointer (some ⟨D2,0,none⟩),.int .i64 h] w8 (fun e w' => e=.returned (.int .i64 (dd1.left h))∧w'=w8) from by have:=Left_in HI8.out.mem.desk2 h hh3; rw [HI8.out.rel.left] at this; exact this)
        go_wp2_with fail
        refine (Waits_in HI8.out.mem.desk1 h hh3).mono ?_
        rintro e w8 ⟨rfl,rfl⟩
        go_wp2_with fail
        refine HW2.out.mono ?_
        rintro e w8 ⟨rfl,rfl⟩
        go_wp2_with fail
        refine (Left_in HI8.out.mem.desk1 h hh3).mono ?_
        rintro e w8 ⟨rfl,rfl⟩
        go_wp2_with fail
        refine HL2.out.mono ?_
        rintro e w8 ⟨rfl,rfl⟩
        go_wp2_with fail
        refine ⟨⟨i+1,dd1,dd2,f1',f2',vs1',qs1',vs2',qs2',pls1',pls2',by omega,by go_num,HI8.out⟩,?_⟩
        show n - ((i:Int)+1).toNat < n - (i:Int).toNat
        omega
  ·obtain rfl:i=n:=by omega
   go_wp2_with fail
   go_ret
   exact ⟨rfl,HI.out.mem.below⟩
end Go.Proofs.YtpdlmbbgioenoaaGreatDoor.W
namespace Go.Proofs.YtpdlmbbgioenoaaGreatDoor.hookApart
open Go.ChangeShapes Go.WideShapes Go.ChangeAt Go.RowKit Go.Joins Go.Deep Go.Proofs.YtpdlmbbgioenoaaGreatDoor.R
theorem own:ownKnob Tryz.prog.godebug=none:=by kernel_rfl
theorem lifted (os:Os) (started:os.Started) (H:Type) (enc:TypeId × Value→H) :
  ReturnsInHanded {} Tryz.checked os 9 .any (fun w args => (Rows.hookApartSpec.pre enc Tryz.prog Tryz.f9 [] false w args∧laidMetH Tryz.prog Rows.hookApartRow.laid w)∧sizedMet enc Tryz.prog Tryz.f9 (OpenSpec.ofChange Rows.hookApartSpec) false w args)
   (Rows.hookApartSpec.post enc Tryz.prog Tryz.f9 false true false false):=by
 refine returnsInHanded_of_change_and (C:=Tryz.checked) (X:=fun w _ => laidMetH Tryz.prog Rows.hookApartRow.laid w) (fun _ _ _ hh h => h.of_heap hh) own started (by kernel_rfl) Tryz.func9
  (ChangeSpec.witness_shaped (enc:=enc) (C:=Tryz.checked) (os:=os) (X:=fun w _ => laidMetH Tryz.prog Rows.hookApartRow.laid w) false (LaidB3.doorW os) #[.slice none 0 0,.int .i64 0] 8 (LaidB3.doorW_os os) (LaidB3.door_shaped os _) (by kernel_rfl) (by kernel_rfl) (by kernel_rfl) (LaidB3.door_met os _)) ?_
 intro W base args ds gs before hval0 hW _ _ hL _
 have hval:∀ (j:Nat) t v,Tryz.f9.params[j]?=some t→args[j]?=some v→Value.okWide Tryz.prog W .any base t v:=hval0
 have hW':=hW
 obtain ⟨p,q,hA0,hV,rfl,hfz,hnd⟩:=hW
 have hA:DataW.TrodAll enc Tryz.prog W 0 (fun _ => true) true Tryz.f9.params.toList args.toList ds p:=hA0
 rw [Tryz.params9] at hA hval
 obtain ⟨v0,vs0,d0,ds0,p0,q0,hargs,rfl,rfl,h0,r0⟩:=trodAll_cons hA
 obtain ⟨v1,vs1,d1,ds1,p1,q1,rfl,rfl,rfl,h1,r1⟩:=trodAll_cons r0
 obtain ⟨rfl,rfl,rfl⟩:=trodAll_nil r1
 obtain rfl:args=#[v0,v1]:=by cases args; simp_all
 obtain ⟨rfl,rfl⟩:=trodVars_none hV
 obtain ⟨which,rfl,-,-,w1⟩:=open_int Tryz.underlying3 (hval 1 3 v1 rfl rfl) h1
 have hg:=LaidB3.handle hL
 have hr:=LaidB3.rtabs hL
 have hlt:∀ x ∈ p0++(p1++[]),x.block < W.heap.size:=fun x hx => hW'.lt x (by simpa using hx)
 have fin:∀ W':World,Below W.heap.size W W'→Rows.hookApartSpec.post enc Tryz.prog Tryz.f9 false true false false W #[v0,.int .i64 which] (.bool true) W':=fun W' hb =>
  Go.Proofs.YtpdlmbbgioenoaaGreatDoor.W.post_old (pa:=p0++(p1++[])) (pv:=[]) hb hW' rfl (fun _ _ _ => (trodAll_cons_mk (shut_bool Tryz.underlying4 _) trodAll_mk0))
   (fun sp hsp => trodAll_cons_mk (WideElems.Trod_stays laidOut (by kernel_rfl) (of_decide_eq_true (by kernel_rfl)) h0 (fun x hx => hb.same (hlt x (by simp [hx]))) (fun x hx => hsp x (by simp [hx])))
    (trodAll_cons_mk (WideElems.Trod_stays laidOut (by kernel_rfl) (of_decide_eq_true (by kernel_rfl)) h1 (fun x hx => hb.same (hlt x (by simp [hx]))) (fun x hx => hsp x (by simp [hx])))
    trodAll_mk0))
   (fun _ _ => rfl) (ok_one (by kernel_rfl) rfl (okWide_bool_mk Tryz.underlying4 _))
 clear hA0
 obtain ⟨oa,len,cap,rfl⟩:=okWide_slice Tryz.underlying92 (hval 0 92 v0 rfl rfl)
 obtain ⟨fuel,hf⟩:=h0
 obtain ⟨oa',cap',l,hv,hcap,hat,hok⟩:=acts_of_reads (show DataW.trod enc Tryz.prog W 0 (fun _ => true) true fuel 92 [.slice oa len cap]=some (d0,p0) by simpa [Value.cells] using hf)
 simp only [Value.slice.injEq] at hv
 obtain ⟨rfl,hln,rfl⟩:=hv
 by_cases hbig:60 < len
 ·refine (Go.Proofs.YtpdlmbbgioenoaaGreatDoor.W.hookApart_big which oa len cap hbig W).mono fun e W' ⟨he,hb⟩ => ?_
  subst he
  exact ⟨_,rfl,fin W' hb⟩
 ·refine (Go.Proofs.YtpdlmbbgioenoaaGreatDoor.W.hookApart_walk which oa cap l len hln.symm (by omega) hbig W hat hok hr hg).mono fun e W' ⟨he,hb⟩ => ?_
  subst he
  exact ⟨_,rfl,fin W' hb⟩
theorem over:Rows.HookApartSaid :=
 OpenClaim.holds_of_wide 9 Tryz.f9 rfl rfl rfl rfl rfl rfl rfl ⟨rfl,rfl,rfl,rfl,rfl⟩ rfl rfl rfl rfl rfl (by kernel_rfl) Tryz.func9 hookApartClosed.closed
  (of_decide_eq_true (by kernel_rfl)) (by unfold Func.isWrapper; first | (rw [if_pos (by decide +kernel)]; kernel_rfl) | (rw [if_neg (by decide +kernel)]; exact ⟨rfl,rfl⟩))
  (fun os started H enc _ => lifted os started H enc)
theorem proved:Rows.HookApartCardSaid :=
 Claim7.holds_tied_plain_at .later [] [.data,.data,.data,.data,.handle,.sentinel,.sentinel,.widerDeep,.widerDeep,.pinned] true _ true
  over (fun _ h => by cases h) (by kernel_rfl) (fun _ h => by cases h) hookApart_row_tie rfl ⟨rfl,rfl⟩ (by kernel_rfl) rfl
  (fun f fn hf hfn => by
   obtain rfl : f = 9 := Option.some.inj ((show Tryz.prog.funcNamed "gatehouse/gatehousekeep.HookApart" = some 9 by kernel_rfl).symm.trans hf) |>.symm
   obtain rfl:fn=Tryz.f9:=(Option.some.inj (Tryz.func9.symm.trans hfn)).symm
   exact ⟨by kernel_rfl,fun j t ht => by
    rw [Tryz.params9] at ht
    have hm:t ∈ [92,3]:=by simpa using Array.mem_of_getElem? ht
    have hall:([92,3].all fun u => !Tryz.prog.wantsStandIn u)=true:=by kernel_rfl
    exact (show Tryz.prog.wantsStandIn t=false by simpa using List.all_eq_true.1 hall t hm)⟩)
  (by kernel_rfl)
#print axioms proved
end Go.Proofs.YtpdlmbbgioenoaaGreatDoor.hookApart
