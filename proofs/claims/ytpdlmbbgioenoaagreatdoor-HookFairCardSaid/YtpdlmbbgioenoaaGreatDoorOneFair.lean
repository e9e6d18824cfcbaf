/- HookFair: for every input the law returns true, and each argument reads as it did; the variable errors.errorType, strconv's two errors, the tables of names and those that numbers' texts are made of are tied to the program's text (the card). No further conditions. -/
import Derived.Test.YtpdlmbbgioenoaaGreatDoorOneHook
import Derived.Test.YtpdlmbbgioenoaaGreatDoorCards
import Derived.Test.YtpdlmbbgioenoaaGreatDoorTie
import Derived.Test.YtpdlmbbgioenoaaGreatDoorLaidB3
import Derived.Test.YtpdlmbbgioenoaaGreatDoorClosedHookFair
import Derived.ChangeMaps5
set_option linter.unusedSimpArgs false
set_option linter.unusedVariables false
set_option maxRecDepth 100000
namespace Go.Proofs.YtpdlmbbgioenoaaGreatDoor.W
open Go.RowKit Go.Proofs.YtpdlmbbgioenoaaGreatDoor.P
set_option maxHeartbeats 4000000 in
theorem pick3 (a : Int) (w : World) :
  Calls Tryz.prog 34 #[.int .i64 a, .int .i64 3] w fun e w' => e = .returned (.int .i64 (u a % 3)) ∧ w' = w := by
 have e1 := wrap_u64 a
 have b1 := u_nonneg a
 have b2 : u a ≤ 18446744073709551615 := by have := u_lt a; omega
 go_enter Tryz.func34, Tryz.ntmps34
 go_wp2_with fail
 go_ret
 exact ⟨rfl, rfl⟩
set_option maxHeartbeats 4000000 in
theorem pick60 (a : Int) (w : World) :
  Calls Tryz.prog 34 #[.int .i64 a, .int .i64 60] w fun e w' => e = .returned (.int .i64 (u a % 60)) ∧ w' = w := by
 have e1 := wrap_u64 a
 have b1 := u_nonneg a
 have b2 : u a ≤ 18446744073709551615 := by have := u_lt a; omega
 go_enter Tryz.func34, Tryz.ntmps34
 go_wp2_with fail
 go_ret
 exact ⟨rfl, rfl⟩
def nums (g : Nat → Int) : Nat → Value := fun j => .int .i64 (g j)
def boos (g : Nat → Bool) : Nat → Value := fun j => .bool (g j)
theorem nums_upd (g : Nat → Int) (h : Nat) (x : Int) : upd (nums g) h (.int .i64 x) = nums (upd g h x) := by
 funext j
 unfold nums
 by_cases e : j = h
 ·subst e; rw [upd_same, upd_same]
 ·rw [upd_other e, upd_other e]
theorem boos_upd (g : Nat → Bool) (h : Nat) (x : Bool) : upd (boos g) h (.bool x) = boos (upd g h x) := by
 funext j
 unfold boos
 by_cases e : j = h
 ·subst e; rw [upd_same, upd_same]
 ·rw [upd_other e, upd_other e]
structure FairAt (w : World) (D A : Nat) (may : Nat → Int) (d : HD) (vs qs : Nat → Value) (pls : Nat → List (HP × Value)) (sp mo ca we : Nat → Int) (al : Nat → Bool) (wr : World) : Prop where
 desk : DeskAt wr D d vs qs pls
 own : ∀ b, Owns D vs qs b → w.heap.size < b ∧ ¬ (A ≤ b ∧ b < A + 5)
 base : w.heap.size < A
 box : P.Img wr w.heap.size 3 (nums may)
 i0 : P.Img wr A 3 (nums sp)
 i1 : P.Img wr (A + 1) 3 (nums mo)
 i2 : P.Img wr (A + 2) 3 (nums ca)
 i3 : P.Img wr (A + 3) 3 (nums we)
 i4 : P.Img wr (A + 4) 3 (boos al)
 t : ∀ j, j < 4 → Typed wr (A + j) 22
 t4 : Typed wr (A + 4) 94
 below : Below w.heap.size w wr
section
variable {w wr wr' : World} {D A : Nat} {may : Nat → Int} {d d' : HD} {vs qs vs' qs' : Nat → Value} {pls pls' : Nat → List (HP × Value)} {sp mo ca we : Nat → Int} {al : Nat → Bool}
theorem Typed.frm {M : Nat → Prop} {b : Nat} {s : TypeId} (h : Typed wr b s) (hf : Frm M wr wr') (hM : ¬ M b) : Typed wr' b s := by
 obtain ⟨c, hc⟩ := h
 exact ⟨c, (hf.block b (Array.getElem?_eq_some_iff.1 hc).1 hM).trans hc⟩
theorem FairAt.step (h : FairAt w D A may d vs qs pls sp mo ca we al wr) (hf : Frm (Owns D vs qs) wr wr') (hd : DeskAt wr' D d' vs' qs' pls') (ho : ∀ b, Owns D vs' qs' b → Owns D vs qs b ∨ wr.heap.size ≤ b) : FairAt w D A may d' vs' qs' pls' sp mo ca we al wr' := by
 have n : ∀ j, j < 5 → ¬ Owns D vs qs (A + j) := fun j hj e => (h.own _ e).2 ⟨by omega, by omega⟩
 have nb : ¬ Owns D vs qs w.heap.size := fun e => by have := (h.own _ e).1; omega
 refine ⟨hd, fun b hb => ?_, h.base, hf.img h.box (by omega) nb, hf.img h.i0 (by omega) (n 0 (by omega)), hf.img h.i1 (by omega) (n 1 (by omega)), hf.img h.i2 (by omega) (n 2 (by omega)), hf.img h.i3 (by omega) (n 3 (by omega)), hf.img h.i4 (by omega) (n 4 (by omega)), fun j hj => (h.t j hj).frm hf (n j (by omega)), h.t4.frm hf (n 4 (by omega)), ?_⟩
 ·rcases ho b hb with e | e
  ·exact h.own b e
  ·have h4 := h.i4.lt (by omega)
   have hb0 := h.base
   exact ⟨by omega, by omega⟩
 ·exact h.below.trans (hf.below h.below.size fun k e => by have := (h.own k e).1; omega)
theorem FairAt.later (h : FairAt w D A may d vs qs pls sp mo ca we al wr) (hb : Below wr.heap.size wr wr') : FairAt w D A may d vs qs pls sp mo ca we al wr' :=
 h.step (Frm.of hb) (h.desk.later hb) fun b hb => .inl hb
theorem FairAt.deskSet (h : FairAt w D A may d vs qs pls sp mo ca we al wr) {j : Nat} (hj : j < 5) (i : Nat) (v : Value) : DeskAt (wr.setCell ⟨A + j, i, none⟩ v) D d vs qs pls := by
 refine h.desk.frm (setCell_frm _ _ _ _) (fun b hb e => (h.own b hb).2 ⟨by omega, by omega⟩) (fun b ht e => ?_)
 rw [e] at ht
 by_cases h4 : j = 4
 ·subst h4; exact (ht.ne h.t4 (by decide)) rfl
 ·exact (ht.ne (h.t j (by omega)) (by decide)) rfl
theorem FairAt.belowSet (h : FairAt w D A may d vs qs pls sp mo ca we al wr) {j : Nat} (i : Nat) (v : Value) : Below w.heap.size w (wr.setCell ⟨A + j, i, none⟩ v) :=
 h.below.trans ((setCell_frm wr (A + j) i v).below h.below.size fun k e => by have := h.base; omega)
theorem FairAt.setS (h : FairAt w D A may d vs qs pls sp mo ca we al wr) {i : Nat} (hi : i < 3) (x : Int) : FairAt w D A may d vs qs pls (upd sp i x) mo ca we al (wr.setCell ⟨A, i, none⟩ (.int .i64 x)) := by
 have hf := setCell_frm wr A i (.int .i64 x)
 have hA := h.base
 exact ⟨h.deskSet (j := 0) (by omega) i _, h.own, h.base, hf.img h.box (by omega) (by omega), nums_upd sp i x ▸ h.i0.set hi _, hf.img h.i1 (by omega) (by omega), hf.img h.i2 (by omega) (by omega), hf.img h.i3 (by omega) (by omega), hf.img h.i4 (by omega) (by omega), fun j hj => typed_set (h.t j hj) _ _, typed_set h.t4 _ _, h.belowSet (j := 0) i _⟩
theorem FairAt.setM (h : FairAt w D A may d vs qs pls sp mo ca we al wr) {i : Nat} (hi : i < 3) (x : Int) : FairAt w D A may d vs qs pls sp (upd mo i x) ca we al (wr.setCell ⟨A + 1, i, none⟩ (.int .i64 x)) := by
 have hf := setCell_frm wr (A + 1) i (.int .i64 x)
 have hA := h.base
 exact ⟨h.deskSet (by omega) i _, h.own, h.base, hf.img h.box (by omega) (by omega), hf.img h.i0 (by omega) (by omega), nums_upd mo i x ▸ h.i1.set hi _, hf.img h.i2 (by omega) (by omega), hf.img h.i3 (by omega) (by omega), hf.img h.i4 (by omega) (by omega), fun j hj => typed_set (h.t j hj) _ _, typed_set h.t4 _ _, h.belowSet i _⟩
theorem FairAt.setC (h : FairAt w D A may d vs qs pls sp mo ca we al wr) {i : Nat} (hi : i < 3) (x : Int) : FairAt w D A may d vs qs pls sp mo (upd ca i x) we al (wr.setCell ⟨A + 2, i, none⟩ (.int .i64 x)) := by
 have hf := setCell_frm wr (A + 2) i (.int .i64 x)
 have hA := h.base
 exact ⟨h.deskSet (by omega) i _, h.own, h.base, hf.img h.box (by omega) (by omega), hf.img h.i0 (by omega) (by omega), hf.img h.i1 (by omega) (by omega), nums_upd ca i x ▸ h.i2.set hi _, hf.img h.i3 (by omega) (by omega), hf.img h.i4 (by omega) (by omega), fun j hj => typed_set (h.t j hj) _ _, typed_set h.t4 _ _, h.belowSet i _⟩
theorem FairAt.setW (h : FairAt w D A may d vs qs pls sp mo ca we al wr) {i : Nat} (hi : i < 3) (x : Int) : FairAt w D A may d vs qs pls sp mo ca (upd we i x) al (wr.setCell ⟨A + 3, i, none⟩ (.int .i64 x)) := by
 have hf := setCell_frm wr (A + 3) i (.int .i64 x)
 have hA := h.base
 exact ⟨h.deskSet (by omega) i _, h.own, h.base, hf.img h.box (by omega) (by omega), hf.img h.i0 (by omega) (by omega), hf.img h.i1 (by omega) (by omega), hf.img h.i2 (by omega) (by omega), nums_upd we i x ▸ h.i3.set hi _, hf.img h.i4 (by omega) (by omega), fun j hj => typed_set (h.t j hj) _ _, typed_set h.t4 _ _, h.belowSet i _⟩
theorem FairAt.setA (h : FairAt w D A may d vs qs pls sp mo ca we al wr) {i : Nat} (hi : i < 3) (x : Bool) : FairAt w D A may d vs qs pls sp mo ca we (upd al i x) (wr.setCell ⟨A + 4, i, none⟩ (.bool x)) := by
 have hf := setCell_frm wr (A + 4) i (.bool x)
 have hA := h.base
 exact ⟨h.deskSet (by omega) i _, h.own, h.base, hf.img h.box (by omega) (by omega), hf.img h.i0 (by omega) (by omega), hf.img h.i1 (by omega) (by omega), hf.img h.i2 (by omega) (by omega), hf.img h.i3 (by omega) (by omega), boos_upd al i x ▸ h.i4.set hi _, fun j hj => typed_set (h.t j hj) _ _, typed_set h.t4 _ _, h.belowSet i _⟩
end
structure HAct where
 what : Int
 hook : Int
 rank : Int
 oa : Option Addr
 cap : Nat
 L : List Step
 told : Nat → Int
def HAct.cells (x : HAct) : List Value := [.int .i64 x.what, .int .i64 x.hook, .int .i64 x.rank, .slice x.oa x.L.length x.cap] ++ t8 x.told
structure ActAt (w : World) (p : Addr) (x : HAct) : Prop where
 c0 : w.cell? p = some (.int .i64 x.what)
 c1 : w.cell? ⟨p.block, p.off + 1, none⟩ = some (.int .i64 x.hook)
 c2 : w.cell? ⟨p.block, p.off + 2, none⟩ = some (.int .i64 x.rank)
 c3 : w.cell? ⟨p.block, p.off + 3, none⟩ = some (.slice x.oa x.L.length x.cap)
 c4 : w.cell? ⟨p.block, p.off + 4, none⟩ = some (.int .i64 (x.told 0))
 c5 : w.cell? ⟨p.block, p.off + 5, none⟩ = some (.int .i64 (x.told 1))
 c6 : w.cell? ⟨p.block, p.off + 6, none⟩ = some (.int .i64 (x.told 2))
 c7 : w.cell? ⟨p.block, p.off + 7, none⟩ = some (.int .i64 (x.told 3))
 c8 : w.cell? ⟨p.block, p.off + 8, none⟩ = some (.int .i64 (x.told 4))
 c9 : w.cell? ⟨p.block, p.off + 9, none⟩ = some (.int .i64 (x.told 5))
 c10 : w.cell? ⟨p.block, p.off + 10, none⟩ = some (.int .i64 (x.told 6))
 c11 : w.cell? ⟨p.block, p.off + 11, none⟩ = some (.int .i64 (x.told 7))
theorem ActAt.later {w w' : World} {p : Addr} {x : HAct} (h : ActAt w p x) (hb : Below w.heap.size w w') : ActAt w' p x := by
 have hp := block_lt_of_cell h.c0
 exact ⟨(hb.cell hp).trans h.c0, (hb.cell (p := ⟨p.block, _, none⟩) hp).trans h.c1, (hb.cell (p := ⟨p.block, _, none⟩) hp).trans h.c2, (hb.cell (p := ⟨p.block, _, none⟩) hp).trans h.c3, (hb.cell (p := ⟨p.block, _, none⟩) hp).trans h.c4, (hb.cell (p := ⟨p.block, _, none⟩) hp).trans h.c5, (hb.cell (p := ⟨p.block, _, none⟩) hp).trans h.c6, (hb.cell (p := ⟨p.block, _, none⟩) hp).trans h.c7, (hb.cell (p := ⟨p.block, _, none⟩) hp).trans h.c8, (hb.cell (p := ⟨p.block, _, none⟩) hp).trans h.c9, (hb.cell (p := ⟨p.block, _, none⟩) hp).trans h.c10, (hb.cell (p := ⟨p.block, _, none⟩) hp).trans h.c11⟩
def ActsAt (w : World) (oa : Option Addr) (l : List HAct) : Prop := ∀ i x, l[i]? = some x → ∃ a, oa = some a ∧ ActAt w (a.add (i * 12)) x
structure HAct.Ok (w : World) (x : HAct) : Prop where
 cap : x.L.length ≤ x.cap
 at_ : ProgAt w x.oa (nth x.L) x.L.length
 in_ : ∀ j, j < x.L.length → In64 (nth x.L j).off ∧ In64 (nth x.L j).num
theorem turn_ok {d : HD} (h : ∀ j, j < 3 → (d.c j).l.length ≤ 8) {k : Nat} (hk : k < 3) : (∀ y ∈ d.doneOf k, ∃ m : Nat, m < 3 ∧ y.1 = m ∧ 0 ≤ y.2.steps ∧ y.2.steps ≤ 1600) ∧ ∀ j, j < 3 → ((d.after k).c j).l.length ≤ 8 := by
 have hs := drain_spends (d.q k).length ⟨d.c k, d.q k, d.left k + d.may k, d.time, []⟩ ⟨h k hk, by simp⟩
 change Spends _ (d.turn k) at hs
 refine ⟨fun y hy => ?_, fun j hj => ?_⟩
 ·obtain ⟨s, hs1, rfl⟩ := List.mem_map.1 hy
  have := hs.ok.steps s hs1
  exact ⟨k, hk, rfl, this.1, this.2⟩
 ·unfold HD.after
  by_cases e : j = k
  ·subst e; simp only [upd_same]; exact hs.ok.short
  ·simp only [upd_other e]; exact h j hj
theorem done_ok {d : HD} (h : ∀ j, j < 3 → (d.c j).l.length ≤ 8) : ∀ y ∈ d.done, ∃ m : Nat, m < 3 ∧ y.1 = m ∧ 0 ≤ y.2.steps ∧ y.2.steps ≤ 1600 := by
 have h0 := turn_ok h (k := 0) (by omega)
 have h1 := turn_ok h0.2 (k := 1) (by omega)
 have h2 := turn_ok h1.2 (k := 2) (by omega)
 intro y hy
 unfold HD.done at hy
 rcases List.mem_append.1 hy with hy | hy
 ·rcases List.mem_append.1 hy with hy | hy
  ·exact h0.1 y hy
  ·exact h1.1 y hy
 ·exact h2.1 y hy
end Go.Proofs.YtpdlmbbgioenoaaGreatDoor.W
namespace Go.Proofs.YtpdlmbbgioenoaaGreatDoor.W
open Go.RowKit Go.Proofs.YtpdlmbbgioenoaaGreatDoor.P
structure FairInv (w : World) (D A : Nat) (may : Nat → Int) (i : Nat) (d : HD) (f : FS) (vs qs : Nat → Value) (pls : Nat → List (HP × Value)) (wr : World) : Prop where
 mem : FairAt w D A may d vs qs pls f.spent f.most f.came f.went f.always wr
 inv : FInv d f (fun _ => f.rounds)
 may_ : d.may = may
 rounds : 0 ≤ f.rounds ∧ f.rounds ≤ i
 time : 0 ≤ d.time ∧ d.time ≤ 60 * i
 next : ∀ k, k < 3 → 0 ≤ (d.c k).next ∧ (d.c k).next ≤ i
 came : ∀ k, k < 3 → f.came k ≤ i
structure FSmall (d : HD) (f : FS) (k : Nat) : Prop where
 may : 1 ≤ d.may k ∧ d.may k ≤ 60
 left : -1601 ≤ d.left k ∧ d.left k ≤ 3600
 spent : 0 ≤ f.spent k ∧ f.spent k ≤ 6000
 most : 0 ≤ f.most k ∧ f.most k ≤ 1601
 came : 0 ≤ f.came k ∧ f.came k ≤ 60
 went : 0 ≤ f.went k ∧ f.went k ≤ 60
 prod : 0 ≤ f.rounds * d.may k ∧ f.rounds * d.may k ≤ 3600
 few : (d.q k).length ≤ 20
section
variable {w wr wr' : World} {D A : Nat} {may : Nat → Int} {i : Nat} {d d' : HD} {f : FS} {vs qs vs' qs' : Nat → Value} {pls pls' : Nat → List (HP × Value)}
theorem fsmall (h : FInv d f (fun _ => f.rounds)) (hr : 0 ≤ f.rounds ∧ f.rounds ≤ i) (hc : ∀ k, k < 3 → f.came k ≤ i) (hi : i ≤ 60) {k : Nat} (hk : k < 3) : FSmall d f k := by
 have x := h.hook k hk
 have hm := x.hmay
 have p1 : f.rounds * d.may k ≤ 60 * 60 := Int.mul_le_mul (by omega) (by omega) (by omega) (by omega)
 have p0 : 0 ≤ f.rounds * d.may k := Int.mul_nonneg hr.1 (by omega)
 have h1 := x.hwaits; have h2 := x.hmost; have h3 := x.hdebt; have h4 := x.hsum; have h5 := x.hspent; have h6 := x.hwent
 have h7 := hc k hk
 have h8 := h.few k hk
 refine ⟨hm, ⟨by omega, by omega⟩, ⟨h5, by omega⟩, h2, ⟨by omega, by omega⟩, ⟨h6, by omega⟩, ⟨p0, by omega⟩, h8⟩
theorem FairInv.small (h : FairInv w D A may i d f vs qs pls wr) (hi : i ≤ 60) {k : Nat} (hk : k < 3) : FSmall d f k := fsmall h.inv h.rounds h.came hi hk
theorem FairInv.idle (h : FairInv w D A may i d f vs qs pls wr) : FairInv w D A may (i + 1) d f vs qs pls wr :=
 ⟨h.mem, h.inv, h.may_, ⟨h.rounds.1, by have := h.rounds.2; push_cast; omega⟩, ⟨h.time.1, by have := h.time.2; push_cast; omega⟩, fun k hk => ⟨(h.next k hk).1, by have := (h.next k hk).2; push_cast; omega⟩, fun k hk => by have := h.came k hk; push_cast; omega⟩
theorem FairInv.later (h : FairInv w D A may i d f vs qs pls wr) (hb : Below wr.heap.size wr wr') : FairInv w D A may i d f vs qs pls wr' := { h with mem := h.mem.later hb }
theorem FairInv.event (h : FairInv w D A may i d f vs qs pls wr) {k : Nat} (hk : k < 3) (told : Nat → Int) (h20 : ¬ 20 ≤ (d.q k).length) (hm : FairAt w D A may (d.event k told) vs' qs' pls' f.spent f.most (upd f.came k (f.came k + 1)) f.went f.always wr') :
  FairInv w D A may (i + 1) (d.event k told) { f with came := upd f.came k (f.came k + 1) } vs' qs' pls' wr' := by
 have hi := h.inv.event k told
 rw [if_neg h20] at hi
 have he : d.event k told = { d with q := upd d.q k (d.q k ++ [told]) } := by unfold HD.event; rw [if_neg h20]
 refine ⟨hm, hi, by rw [he]; exact h.may_, ⟨h.rounds.1, by have := h.rounds.2; show f.rounds ≤ _; push_cast; omega⟩, ?_, fun j hj => ?_, fun j hj => ?_⟩
 ·rw [he]; have := h.time; show 0 ≤ d.time ∧ d.time ≤ _; push_cast; omega
 ·rw [he]; have := h.next j hj; show 0 ≤ (d.c j).next ∧ (d.c j).next ≤ _; push_cast; omega
 ·have := h.came j hj
  have h2 := h.came k hk
  push_cast
  by_cases e : j = k
  ·subst e; simp only [upd_same]; omega
  ·simp only [upd_other e]; omega
theorem attach_next (c : HC) (L : List Step) (r : Int) : (c.attach L r).1.next = c.next ∨ (c.attach L r).1.next = c.next + 1 := by
 unfold HC.attach
 split
 ·exact .inl rfl
 split
 ·exact .inl rfl
 ·exact .inr rfl
theorem FairInv.attach (h : FairInv w D A may i d f vs qs pls wr) {k : Nat} (hk : k < 3) (L : List Step) (r : Int) (hm : FairAt w D A may (d.attach k L r) vs' qs' pls' f.spent f.most f.came f.went f.always wr') :
  FairInv w D A may (i + 1) (d.attach k L r) f vs' qs' pls' wr' := by
 refine ⟨hm, h.inv.attach k L r, h.may_, ⟨h.rounds.1, by have := h.rounds.2; push_cast; omega⟩, ⟨h.time.1, ?_⟩, fun j hj => ?_, fun j hj => by have := h.came j hj; push_cast; omega⟩
 ·have := h.time.2; push_cast; show d.time ≤ _; omega
 ·have hn := h.next j hj
  unfold HD.attach
  by_cases e : j = k
  ·subst e
   simp only [upd_same]
   rcases attach_next (d.c j) L r with e | e <;> rw [e] <;> push_cast <;> omega
  ·simp only [upd_other e]; push_cast; omega
theorem turn_next {d : HD} (h : ∀ j, j < 3 → (d.c j).l.length ≤ 8) {k : Nat} (hk : k < 3) (j : Nat) : ((d.after k).c j).next = (d.c j).next := by
 have hs := drain_spends (d.q k).length ⟨d.c k, d.q k, d.left k + d.may k, d.time, []⟩ ⟨h k hk, by simp⟩
 change Spends _ (d.turn k) at hs
 unfold HD.after
 by_cases e : j = k
 ·subst e; simp only [upd_same]; exact hs.c
 ·simp only [upd_other e]
theorem round_next {d : HD} (h : ∀ j, j < 3 → (d.c j).l.length ≤ 8) (j : Nat) : ((d.round).c j).next = (d.c j).next := by
 have h0 := turn_ok h (k := 0) (by omega)
 have h1 := turn_ok h0.2 (k := 1) (by omega)
 unfold HD.round
 rw [turn_next h1.2 (by omega), turn_next h0.2 (by omega), turn_next h (by omega)]
theorem FairInv.round (h : FairInv w D A may i d f vs qs pls wr) (hm : FairAt w D A may d.round vs' qs' pls' (f.adds d.done).spent (f.adds d.done).most f.came (f.adds d.done).went (f.round d).always wr') :
  FairInv w D A may (i + 1) d.round (f.round d) vs' qs' pls' wr' := by
 have hc : (f.round d).came = f.came := (adds_keep d.done f).2.1
 have ht := hdAfters_time d h.inv.few 3 (by omega)
 rw [hdAfters_three] at ht
 refine ⟨?_, h.inv.round, h.may_, ?_, ?_, fun j hj => ?_, fun j hj => ?_⟩
 ·rw [hc]; exact hm
 ·have := h.rounds; show 0 ≤ f.rounds + 1 ∧ f.rounds + 1 ≤ _; push_cast; omega
 ·have := h.time; push_cast at ht ⊢; omega
 ·rw [round_next h.inv.short]; have := h.next j hj; push_cast; omega
 ·rw [hc]; have := h.came j hj; push_cast; omega
theorem adds_small : ∀ (l : List (Int × Sd)) (f : FS), (∀ y ∈ l, ∃ m : Nat, m < 3 ∧ y.1 = m ∧ 0 ≤ y.2.steps ∧ y.2.steps ≤ 1600) → (∀ k, k < 3 → 0 ≤ f.spent k ∧ 0 ≤ f.most k ∧ f.most k ≤ 1601 ∧ 0 ≤ f.went k) →
  ∀ k, k < 3 → (0 ≤ (f.adds l).spent k ∧ (f.adds l).spent k ≤ f.spent k + 2000 * l.length) ∧ (0 ≤ (f.adds l).most k ∧ (f.adds l).most k ≤ 1601) ∧ 0 ≤ (f.adds l).went k ∧ (f.adds l).went k ≤ f.went k + l.length
 | [], f, _, h, k, hk => by have := h k hk; simp [FS.adds]; omega
 | y :: l, f, hl, h, k, hk => by
  obtain ⟨m, hm, e, h1, h2⟩ := hl y (by simp)
  have e0 : f.adds (y :: l) = (f.add y).adds l := rfl
  have et : y.1.toNat = m := by rw [e]; simp
  have key : ∀ j, j < 3 → (0 ≤ (f.add y).spent j ∧ (f.add y).spent j ≤ f.spent j + 2000) ∧ (0 ≤ (f.add y).most j ∧ (f.add y).most j ≤ 1601) ∧ 0 ≤ (f.add y).went j ∧ (f.add y).went j ≤ f.went j + 1 := by
   intro j hj
   have hj0 := h j hj
   unfold FS.add
   simp only [et]
   by_cases ej : j = m
   ·subst ej; simp only [upd_same]; omega
   ·simp only [upd_other ej]; omega
  have ih := adds_small l (f.add y) (fun z hz => hl z (List.mem_cons_of_mem _ hz)) (fun j hj => by have := key j hj; omega) k hk
  have hk0 := key k hk
  rw [e0, List.length_cons]
  push_cast
  omega
end
theorem Attach_all {w : World} {D : Nat} {d : HD} {vs qs : Nat → Value} {pls : Nat → List (HP × Value)} (h : DeskAt w D d vs qs pls) (k : Nat) (hk : k < 3) (x : HAct) {W0 : World} (hx : x.Ok W0) (hb0 : Below W0.heap.size W0 w) (hno : ∀ b, b < W0.heap.size → ¬ Owns D vs qs b) (hg : ErrT w) (hnx : 0 ≤ (d.c k).next ∧ (d.c k).next < 1000000) :
  Calls Tryz.prog 36 #[.pointer (some ⟨D, k * 2, none⟩), .slice x.oa x.L.length x.cap, .int .i64 x.rank] w fun e w' => (∃ er, e = .returned (.tuple #[.int .i64 ((d.c k).attach x.L x.rank).2.1, er])) ∧
   ∃ vs' pls', DeskAt w' D (d.attach k x.L x.rank) vs' qs pls' ∧ Frm (Owns D vs qs) w w' ∧ ∀ b, Owns D vs' qs b → Owns D vs qs b ∨ w.heap.size ≤ b := by
 have hat : ProgAt w x.oa (nth x.L) x.L.length := hx.at_.later hb0
 by_cases h0 : x.L.length = 0
 ·have hv : (verify (nth x.L) x.L.length).1.1 ≠ 0 := fun e => by have := verify_len e; omega
  have e1 : (d.c k).attach x.L x.rank = (d.c k, 0, (verify (nth x.L) x.L.length).1) := by unfold HC.attach; rw [if_pos hv]
  have e2 : d.attach k x.L x.rank = d := by unfold HD.attach; rw [e1]; simp only [upd_self]
  rw [e2, e1]
  exact (Attach_err _ x.oa x.cap x.L x.rank w hx.cap hat hx.in_ hg hv).mono fun e w' ⟨⟨er, he, _⟩, hb⟩ => ⟨⟨er, he⟩, vs, pls, h.later hb, Frm.of hb, fun b hb => .inl hb⟩
 ·refine (Attach_any h k hk x.oa x.cap x.L x.rank hx.cap hat (fun a ha => ?_) hx.in_ hg hnx).mono fun e w' ⟨⟨er, he, _⟩, hp⟩ => ⟨⟨er, he⟩, hp⟩
  obtain ⟨a', ha', hc⟩ := hx.at_ (by omega)
  rw [ha] at ha'
  cases ha'
  exact hno _ (block_lt_of_cell (hc 0 (by omega)).1)
theorem Typed.alloc {w : World} {b : Nat} {t : TypeId} (h : Typed w b t) (o : Obj) : Typed (w.alloc o) b t := h.frm' (Frm.of ((Below.refl _ _).alloc (Nat.le_refl _) o) (M := fun _ => False)) (fun h => h)
theorem fair_start {w w4 : World} {D : Nat} {m : Nat → Int} (hd : DeskAt w4 D (HD.zero m) (fun _ => .slice none 0 0) (fun _ => .slice none 0 0) (fun _ => [])) (hD : w.heap.size < D) (hbox : P.Img w4 w.heap.size 3 (nums m)) (hb : Below w.heap.size w w4) :
  FairAt w D w4.heap.size m (HD.zero m) (fun _ => .slice none 0 0) (fun _ => .slice none 0 0) (fun _ => []) (fun _ => 0) (fun _ => 0) (fun _ => 0) (fun _ => 0) (fun _ => true)
   ((((((w4.alloc (.cells #[.int .i64 0, .int .i64 0, .int .i64 0] 22)).alloc (.cells #[.int .i64 0, .int .i64 0, .int .i64 0] 22)).alloc (.cells #[.int .i64 0, .int .i64 0, .int .i64 0] 22)).alloc (.cells #[.int .i64 0, .int .i64 0, .int .i64 0] 22)).alloc (.cells #[.bool true, .bool true, .bool true] 94))) := by
 have hDl := hd.typed.lt
 have hbl := hbox.lt (by omega)
 generalize hz : Obj.cells #[.int .i64 0, .int .i64 0, .int .i64 0] 22 (0, 0) = z
 generalize ht : Obj.cells #[.bool true, .bool true, .bool true] 94 (0, 0) = t
 have hb5 : Below w4.heap.size w4 ((((((w4.alloc z).alloc z).alloc z).alloc z).alloc t)) := (((((Below.refl w4.heap.size w4).alloc (Nat.le_refl _) _).alloc (by simp) _).alloc (by simp; omega) _).alloc (by simp; omega) _).alloc (by simp; omega) _
 have a0 : (w4.alloc z).heap[w4.heap.size]? = some z := heap_alloc_new w4 z
 have a1 : ((w4.alloc z).alloc z).heap[w4.heap.size + 1]? = some z := by simpa using heap_alloc_new (w4.alloc z) z
 have a2 : (((w4.alloc z).alloc z).alloc z).heap[w4.heap.size + 2]? = some z := by simpa using heap_alloc_new ((w4.alloc z).alloc z) z
 have a3 : ((((w4.alloc z).alloc z).alloc z).alloc z).heap[w4.heap.size + 3]? = some z := by simpa using heap_alloc_new (((w4.alloc z).alloc z).alloc z) z
 have a4 : (((((w4.alloc z).alloc z).alloc z).alloc z).alloc t).heap[w4.heap.size + 4]? = some t := by simpa using heap_alloc_new ((((w4.alloc z).alloc z).alloc z).alloc z) t
 subst hz ht
 refine ⟨hd.later hb5, fun b hb => ?_, hbl, hbox.later hb5 hbl, ((((Img.mk' a0 (by kernel_rfl)).alloc _).alloc _).alloc _).alloc _, (((Img.mk' a1 (by kernel_rfl)).alloc _).alloc _).alloc _, ((Img.mk' a2 (by kernel_rfl)).alloc _).alloc _, (Img.mk' a3 (by kernel_rfl)).alloc _, Img.mk' a4 (by kernel_rfl), fun j hj => ?_, ⟨_, a4⟩, hb.trans (hb5.mono hb.size)⟩
 ·rcases hb with rfl | ⟨k, _, hb | hb⟩
  ·exact ⟨hD, by omega⟩
  ·cases hb
  ·cases hb
 ·have hj' : j = 0 ∨ j = 1 ∨ j = 2 ∨ j = 3 := by omega
  rcases hj' with rfl | rfl | rfl | rfl
  ·exact ((((show Typed _ _ _ from ⟨_, a0⟩).alloc _).alloc _).alloc _).alloc _
  ·exact (((show Typed _ _ _ from ⟨_, a1⟩).alloc _).alloc _).alloc _
  ·exact ((show Typed _ _ _ from ⟨_, a2⟩).alloc _).alloc _
  ·exact (show Typed _ _ _ from ⟨_, a3⟩).alloc _
section
variable {w wr : World} {D A : Nat} {may : Nat → Int} {d : HD} {vs qs : Nat → Value} {pls : Nat → List (HP × Value)} {sp mo ca we : Nat → Int} {al : Nat → Bool}
theorem FairAt.donesSet (h : FairAt w D A may d vs qs pls sp mo ca we al wr) {B : Nat} {L : List (Int × Sd × Value)} {v : Value} (hd : DonesAt wr B L v) {j : Nat} (hj : j < 5) (i : Nat) (u : Value) : DonesAt (wr.setCell ⟨A + j, i, none⟩ u) B L v := by
 have key : ∀ b t, Typed wr b t → t ≠ 22 → t ≠ 94 → ¬ b = A + j := fun b t ht n1 n2 e => by
  rw [e] at ht
  by_cases h4 : j = 4
  ·subst h4; exact (ht.ne h.t4 n2) rfl
  ·exact (ht.ne (h.t j (by omega)) n1) rfl
 exact hd.frm (setCell_frm _ _ _ _) (fun b hb => key b _ (typed_row hd.row b hb) (by decide) (by decide)) fun b ht => key b _ ht (by decide) (by decide)
theorem below_drewN (w : World) (n : Nat) : Below w.heap.size w (w.drewN n) := ⟨rfl, rfl, rfl, Nat.le_refl _, fun _ _ => rfl⟩
theorem DonesAt.later {w w' : World} {B : Nat} {L : List (Int × Sd × Value)} {v : Value} (h : DonesAt w B L v) (hb : Below w.heap.size w w') : DonesAt w' B L v := h.frm (M := fun _ => False) (Frm.of hb) (fun _ _ h => h) fun _ _ h => h
theorem FairAt.alCongr {al' : Nat → Bool} (h : FairAt w D A may d vs qs pls sp mo ca we al wr) (e : ∀ j, j < 3 → al j = al' j) : FairAt w D A may d vs qs pls sp mo ca we al' wr :=
 ⟨h.desk, h.own, h.base, h.box, h.i0, h.i1, h.i2, h.i3, h.i4.congr fun j hj => by unfold boos; rw [e j hj], h.t, h.t4, h.below⟩
theorem al_step (a q : Nat → Bool) (h : Nat) : upd (fun j => if j < h then (a j && q j) else a j) h (a h && q h) = fun j => if j < h + 1 then (a j && q j) else a j := by
 funext j
 by_cases e : j = h
 ·subst e; rw [upd_same, if_pos (by omega)]
 ·rw [upd_other e]
  by_cases h1 : j < h
  ·rw [if_pos h1, if_pos (by omega)]
  ·rw [if_neg h1, if_neg (by omega)]
end
end Go.Proofs.YtpdlmbbgioenoaaGreatDoor.W
namespace Go.Proofs.YtpdlmbbgioenoaaGreatDoor.R
open Go.ChangeShapes Go.WideShapes Go.ChangeAt Go.RowKit Go.Joins Go.Deep
theorem cellsA : Tryz.prog.cellsOf 96 = 12 := by kernel_rfl
theorem twelve {α : Type} {l : List α} (h : l.length = 12) : ∃ a b c d e f g i j k m n, l = [a, b, c, d, e, f, g, i, j, k, m, n] := by
 match l, h with
 | [a, b, c, d, e, f, g, i, j, k, m, n], _ => exact ⟨a, b, c, d, e, f, g, i, j, k, m, n, rfl⟩
theorem five {α : Type} {l : List α} (h : l.length = 5) : ∃ a b c d e, l = [a, b, c, d, e] := by
 match l, h with
 | [a, b, c, d, e], _ => exact ⟨a, b, c, d, e, rfl⟩
theorem eight_of_reads {H : Type} {enc : TypeId × Value → H} {W : World} {sp : Nat → Bool} {held : Bool} {fuel : Nat} {a b c d e f g h : Value} {x : DataW H × List MemPlace}
  (hf : DataW.trod enc Tryz.prog W 0 sp held fuel 34 [a, b, c, d, e, f, g, h] = some x) : ∃ told : Nat → Int, [a, b, c, d, e, f, g, h] = Go.Proofs.YtpdlmbbgioenoaaGreatDoor.W.t8 told := by
 obtain ⟨xs, m, -, -, -, hxl, hi⟩ := DataW.trod_array Tryz.underlying34 hf
 obtain ⟨k, h1, h2⟩ := arr_of (cs := #[a, b, c, d, e, f, g, h]) (n := 8) rfl fun i hil => by
  have hx := hi i hil
  rw [List.getElem?_eq_getElem (by omega), cellsI] at hx
  obtain ⟨k, e1, -, wk⟩ := DataW.trod_int Tryz.underlying2 hx
  refine ⟨k, ?_, in64_lit wk⟩
  have := congrArg (·[0]?) e1
  simpa [List.getElem?_take, List.getElem?_drop] using this
 exact ⟨k, by have := congrArg Array.toList h2; exact this⟩
theorem cells3 : Tryz.prog.cellsOf 22 = 3 := by kernel_rfl
theorem cellsN : Tryz.prog.cellsOf 3 = 1 := by kernel_rfl
theorem three_of_reads {H : Type} {enc : TypeId × Value → H} {W : World} {sp : Nat → Bool} {held : Bool} {r : Reach} {b0 : Nat} {v : Value} {d : DataW H} {p : List MemPlace}
  (hv : Value.okWide Tryz.prog W r b0 22 v) (h : DataW.Trod enc Tryz.prog W 0 sp held 22 v d p) : ∃ f : Nat → Int, v = .agg #[.int .i64 (f 0), .int .i64 (f 1), .int .i64 (f 2)] := by
 obtain ⟨cs, hcs, hsz⟩ := okWide_array (P := Tryz.prog) (t := 22) Tryz.underlying22 hv
 subst hcs
 rw [cells3] at hsz
 obtain ⟨fuel, hf⟩ := h
 obtain ⟨xs, m, -, -, -, hxl, hi⟩ := DataW.trod_array Tryz.underlying22 hf
 obtain ⟨f, hf1, hf2⟩ := arr_of (n := 3) hsz fun i hil => by
  have hx := hi i hil
  rw [List.getElem?_eq_getElem (by omega), cellsN] at hx
  obtain ⟨k, e, -, wk⟩ := DataW.trod_int Tryz.underlying3 hx
  refine ⟨k, ?_, in64_lit wk⟩
  have := congrArg (·[0]?) e
  simpa [Value.cells] using this
 exact ⟨f, by rw [hf2]; rfl⟩
theorem act_of_reads {H : Type} {enc : TypeId × Value → H} {W : World} {fuel : Nat} {cs : List Value} {x : DataW H × List MemPlace}
  (h : DataW.trod enc Tryz.prog W 0 (fun _ => true) true fuel 96 cs = some x) : ∃ a : Go.Proofs.YtpdlmbbgioenoaaGreatDoor.W.HAct, cs = a.cells ∧ a.Ok W := by
 obtain ⟨xs, n, -, -, hl, hxl, hf⟩ := DataW.trod_struct Tryz.underlying96 h
 rw [cellsA] at hl
 obtain ⟨c0, c1, c2, c3, c4, c5, c6, c7, c8, c9, c10, c11, rfl⟩ := twelve hl
 obtain ⟨x0, x1, x2, x3, x4, rfl⟩ := five hxl
 have g0 : DataW.trod enc Tryz.prog W 0 (fun _ => true) true n 3 (List.take (Tryz.prog.cellsOf 3) (List.drop 0 [c0, c1, c2, c3, c4, c5, c6, c7, c8, c9, c10, c11])) = some x0 := hf 0 _ rfl
 have g1 : DataW.trod enc Tryz.prog W 0 (fun _ => true) true n 3 (List.take (Tryz.prog.cellsOf 3) (List.drop 1 [c0, c1, c2, c3, c4, c5, c6, c7, c8, c9, c10, c11])) = some x1 := hf 1 _ rfl
 have g2 : DataW.trod enc Tryz.prog W 0 (fun _ => true) true n 3 (List.take (Tryz.prog.cellsOf 3) (List.drop 2 [c0, c1, c2, c3, c4, c5, c6, c7, c8, c9, c10, c11])) = some x2 := hf 2 _ rfl
 have g3 : DataW.trod enc Tryz.prog W 0 (fun _ => true) true n 33 (List.take (Tryz.prog.cellsOf 33) (List.drop 3 [c0, c1, c2, c3, c4, c5, c6, c7, c8, c9, c10, c11])) = some x3 := hf 3 _ rfl
 have g4 : DataW.trod enc Tryz.prog W 0 (fun _ => true) true n 34 (List.take (Tryz.prog.cellsOf 34) (List.drop 4 [c0, c1, c2, c3, c4, c5, c6, c7, c8, c9, c10, c11])) = some x4 := hf 4 _ rfl
 have cI : Tryz.prog.cellsOf 3 = 1 := by kernel_rfl
 have cS : Tryz.prog.cellsOf 33 = 1 := by kernel_rfl
 simp only [cI, cS, cellsW, List.drop_zero, List.drop_succ_cons, List.take_succ_cons, List.take_zero] at g0 g1 g2 g3 g4
 obtain ⟨k0, e0, -⟩ := DataW.trod_int Tryz.underlying3 g0
 obtain ⟨k1, e1, -⟩ := DataW.trod_int Tryz.underlying3 g1
 obtain ⟨k2, e2, -⟩ := DataW.trod_int Tryz.underlying3 g2
 obtain ⟨told, e4⟩ := eight_of_reads g4
 simp only [List.cons.injEq, and_true] at e0 e1 e2
 subst e0 e1 e2
 have main : ∃ oa L cap, c3 = .slice oa (List.length (α := P.Step) L) cap ∧ L.length ≤ cap ∧ Go.Proofs.YtpdlmbbgioenoaaGreatDoor.W.ProgAt W oa (P.nth L) L.length ∧ ∀ j, j < L.length → P.In64 (P.nth L j).off ∧ P.In64 (P.nth L j).num := by
  rcases steps_of_reads g3 with h1 | ⟨a, len, cap, S, h1, hl, hs, hi⟩
  ·exact ⟨none, [], 0, h1, Nat.le_refl _, fun h => by simp at h, fun j h => by simp at h⟩
  ·have hlen : (P.first S len).length = len := P.first_length S len
   have hnth : ∀ j, j < len → P.nth (P.first S len) j = S j := fun j hj => P.nth_first S len j hj
   refine ⟨some a, P.first S len, cap, by rw [hlen]; exact h1, by rw [hlen]; exact hl, fun _ => ⟨a, rfl, fun i hil => ?_⟩, fun j hj => ?_⟩
   ·rw [hlen] at hil
    rw [hnth i hil]
    exact hs i hil
   ·rw [hlen] at hj
    rw [hnth j hj]
    exact (hi j hj).2.2
 obtain ⟨oa, L, cap, rfl, hcap, hat, hin⟩ := main
 refine ⟨⟨k0, k1, k2, oa, cap, L, told⟩, ?_, ⟨hcap, hat, hin⟩⟩
 show [Value.int .i64 k0, .int .i64 k1, .int .i64 k2, .slice oa L.length cap, c4, c5, c6, c7, c8, c9, c10, c11] = [Value.int .i64 k0, .int .i64 k1, .int .i64 k2, .slice oa L.length cap] ++ Go.Proofs.YtpdlmbbgioenoaaGreatDoor.W.t8 told
 rw [← e4]
 rfl
theorem acts_of_reads {H : Type} {enc : TypeId × Value → H} {W : World} {fuel : Nat} {v : Value} {x : DataW H × List MemPlace}
  (h : DataW.trod enc Tryz.prog W 0 (fun _ => true) true fuel 92 [v] = some x) :
  ∃ oa cap l, v = .slice oa (List.length (α := Go.Proofs.YtpdlmbbgioenoaaGreatDoor.W.HAct) l) cap ∧ l.length ≤ cap ∧ Go.Proofs.YtpdlmbbgioenoaaGreatDoor.W.ActsAt W oa l ∧ ∀ x ∈ l, x.Ok W := by
 rcases open_slice Tryz.underlying92 h with ⟨hc, -⟩ | ⟨a, len, cap, m, n, D, Pl, hc, hb, hl, hm, hmm, hx, hi⟩
 ·exact ⟨none, 0, [], by simpa using hc, Nat.le_refl _, fun i x h => by simp at h, fun x h => by cases h⟩
 ·have hs : ∀ i, i < len → ∃ y : Go.Proofs.YtpdlmbbgioenoaaGreatDoor.W.HAct, Go.Proofs.YtpdlmbbgioenoaaGreatDoor.W.ActAt W (a.add (i * 12)) y ∧ y.Ok W := by
   intro i hil
   have him : i < m := by rw [hmm]; simp; omega
   obtain ⟨cs, hcs, ht⟩ := hi i him
   rw [cellsA] at hcs
   obtain ⟨-, -, hat⟩ := World.cells?_some hcs
   obtain ⟨y, rfl, ok⟩ := act_of_reads ht
   exact ⟨y, ⟨hat 0 (by omega), hat 1 (by omega), hat 2 (by omega), hat 3 (by omega), hat 4 (by omega), hat 5 (by omega), hat 6 (by omega), hat 7 (by omega), hat 8 (by omega), hat 9 (by omega), hat 10 (by omega), hat 11 (by omega)⟩, ok⟩
  let f : Fin len → Go.Proofs.YtpdlmbbgioenoaaGreatDoor.W.HAct := fun i => Classical.choose (hs i.1 i.2)
  have hf : ∀ i : Fin len, Go.Proofs.YtpdlmbbgioenoaaGreatDoor.W.ActAt W (a.add (i.1 * 12)) (f i) ∧ (f i).Ok W := fun i => Classical.choose_spec (hs i.1 i.2)
  refine ⟨some a, cap, List.ofFn f, by rw [List.length_ofFn]; simpa using hc, by rw [List.length_ofFn]; exact hl, fun i y hy => ⟨a, rfl, ?_⟩, fun y hy => ?_⟩
  ·have hil : i < len := by have := (List.getElem?_eq_some_iff.1 hy).1; rwa [List.length_ofFn] at this
   rw [List.getElem?_ofFn, dif_pos hil] at hy
   injection hy with hy
   rw [← hy]
   exact (hf ⟨i, hil⟩).1
  ·obtain ⟨i, rfl⟩ := List.mem_ofFn.1 hy
   exact (hf i).2
end Go.Proofs.YtpdlmbbgioenoaaGreatDoor.R
namespace Go.Proofs.YtpdlmbbgioenoaaGreatDoor.W
open Go.RowKit Go.Proofs.YtpdlmbbgioenoaaGreatDoor.P
theorem hookFair_big (may : Nat → Int) (oa : Option Addr) (n cap : Nat) (h : 60 < n) (w : World) :
  Calls Tryz.prog 8 #[.agg #[.int .i64 (may 0), .int .i64 (may 1), .int .i64 (may 2)], .slice oa n cap] w fun e w' => e = .returned (.bool true) ∧ Below w.heap.size w w' := by
 have h3 : 60 < (n : Int) := by omega
 go_enter Tryz.func8, Tryz.ntmps8
 go_wp2_with fail
 go_ret
 exact ⟨rfl, (Below.refl _ _).alloc (Nat.le_refl _) _⟩
set_option maxHeartbeats 100000000 in
theorem hookFair_walk (may : Nat → Int) (oa : Option Addr) (cap : Nat) (l : List HAct) (n : Nat) (hn : l.length = n) (hcap : n ≤ cap) (h60 : ¬ 60 < n) (w : World) (ha : ActsAt w oa l) (hok : ∀ x ∈ l, x.Ok w) (hrt : RTabs w) (hg : ErrT w) :
  Calls Tryz.prog 8 #[.agg #[.int .i64 (may 0), .int .i64 (may 1), .int .i64 (may 2)], .slice oa n cap] w fun e w' => e = .returned (.bool true) ∧ Below w.heap.size w w' := by
 have h3 : ¬ 60 < (n : Int) := by omega
 have hgw : 4 < w.heap.size := block_lt_of_cell hg
 have HA := Lib.hid ha
 have HOK := Lib.hid hok
 have HRT := Lib.hid hrt
 have HG := Lib.hid hg
 have HN := Lib.hid hn
 clear ha hok hrt hg hn
 go_enter Tryz.func8, Tryz.ntmps8
 go_wp2_with fail
 generalize hW : World.alloc w _ = w1
 have hb1 : Below w.heap.size w w1 := hW ▸ (Below.refl w.heap.size w).alloc (Nat.le_refl _) _
 have IB1 : P.Img w1 w.heap.size 3 (nums may) := hW ▸ Img.mk' (heap_alloc_new w _) (by kernel_rfl)
 have HB1 := Lib.hid hb1
 have HIB1 := Lib.hid IB1
 clear hW hb1 IB1
 refine (Hooked_yes _ (HRT.out.later HB1.out) (HG.out.later HB1.out)).mono ?_
 rintro e w2 ⟨rfl, hb⟩
 have HB2 := Lib.hid (HB1.out.trans (hb.mono HB1.out.size))
 have HIB2 := Lib.hid (HIB1.out.later hb (HIB1.out.lt (by omega)))
 clear hb HIB1
 go_wp2_with fail
 go_loopw [5] (fun x wr => ∃ (k : Nat) (m : Nat → Int), k ≤ 3 ∧ x = .int .i64 k ∧ P.Img wr w.heap.size 3 (nums m) ∧ (∀ j, j < k → 1 ≤ m j ∧ m j ≤ 60) ∧ Below w.heap.size w wr) (fun x _ => 3 - (intOf x).toNat)
 case atStart => exact ⟨0, may, by omega, rfl, HIB2.out, fun j hj => by omega, HB2.out⟩
 case round =>
  obtain ⟨k, m, hk, rfl, hI, hm, hb⟩ := hrel
  have HI := Lib.hid hI
  have HM := Lib.hid hm
  have HB := Lib.hid hb
  by_cases hk3 : k < 3
  ·have k4 : (k : Int) < 3 := by omega
   have ck : wr.cell? ⟨w.heap.size, k, none⟩ = some (.int .i64 (m k)) := hI.cell k hk3
   have gk : wr.frozen? ⟨w.heap.size, k, none⟩ = false := hI.free k hk3
   clear hI hm hb
   go_wp2_with fail
   refine (pick60 (m k) _).mono ?_
   rintro e wr ⟨rfl, rfl⟩
   have hw : IntKind.i64.wrap (1 + u (m k) % 60) = 1 + u (m k) % 60 := by rw [IntKind.wrap_i64]; omega
   have hmk : 1 ≤ 1 + u (m k) % 60 ∧ 1 + u (m k) % 60 ≤ 60 := by omega
   go_wp2_with fail
   go_roundw
   case rel =>
    refine ⟨k + 1, upd m k (1 + u (m k) % 60), by omega, by go_num, nums_upd m k (1 + u (m k) % 60) ▸ HI.out.set hk3 _, fun j hj => ?_, HB.out.trans ((setCell_frm wr w.heap.size k _).below HB.out.size fun b e => by omega)⟩
    by_cases e : j = k
    ·subst e; rw [upd_same]; exact hmk
    ·rw [upd_other e]; exact HM.out j (by omega)
   case measure => simp [intOf]; omega
  ·obtain rfl : k = 3 := by omega
   have c0 : wr.cell? ⟨w.heap.size, 0, none⟩ = some (.int .i64 (m 0)) := hI.cell 0 (by omega)
   have c1 : wr.cell? ⟨w.heap.size, 1, none⟩ = some (.int .i64 (m 1)) := hI.cell 1 (by omega)
   have c2 : wr.cell? ⟨w.heap.size, 2, none⟩ = some (.int .i64 (m 2)) := hI.cell 2 (by omega)
   have hwl := hI.lt (by omega)
   clear hI hm hb
   go_wp2_with fail
   refine (New_ok m (fun k hk => by have := HM.out k hk; omega) _).mono ?_
   rintro e w4 ⟨D, rfl, hD, hd, hb⟩
   have HF0 := Lib.hid (fair_start hd (by omega : w.heap.size < D) (HI.out.later hb hwl) (HB.out.trans (hb.mono HB.out.size)))
   clear hb hd c0 c1 c2
   go_upto_region 14 with fail
   generalize hW : World.alloc (World.alloc (World.alloc (World.alloc (World.alloc w4 _) _) _) _) _ = w5
   have HF1 := Lib.hid (show FairInv w D w4.heap.size m 0 (HD.zero m) FS.zero _ _ _ w5 from ⟨hW ▸ HF0.out, FInv.zero HM.out, rfl, ⟨Int.le_refl _, Int.le_refl _⟩, ⟨Int.le_refl _, Int.le_refl _⟩, fun k _ => ⟨Int.le_refl _, Int.le_refl _⟩, fun k _ => Int.le_refl _⟩)
   clear hW HF0 HB1 HIB2 HB2 HI HB
   go_wp2_with fail
   go_loopw [14, 13] (fun x y wr => ∃ (i : Nat) (d : HD) (f : FS) (vs qs : Nat → Value) (pls : Nat → List (HP × Value)), i ≤ n ∧ x = .int .i64 i ∧ y = .int .i64 f.rounds ∧ FairInv w D w4.heap.size m i d f vs qs pls wr) (fun x _ _ => n - (intOf x).toNat)
   case atStart => exact ⟨0, _, _, _, _, _, by omega, rfl, rfl, HF1.out⟩
   case round =>
    obtain ⟨i, d, f, vs, qs, pls, hi, rfl, rfl, hI⟩ := hrel
    have HI := Lib.hid hI
    clear hI HF1
    by_cases hin : i < n
    ·have hi1 : (i : Int) < n := by omega
     obtain ⟨x, hx⟩ : ∃ x, l[i]? = some x := ⟨_, List.getElem?_eq_getElem (by have := HN.out; omega)⟩
     have HX := Lib.hid (HOK.out x (List.mem_of_getElem? hx))
     obtain ⟨a, rfl, hat⟩ := HA.out i x hx
     have hat := hat.later HI.out.mem.below
     obtain ⟨c0, c1, c2, c3, c4, c5, c6, c7, c8, c9, c10, c11⟩ := hat
     obtain ⟨k, hkk⟩ : ∃ k : Nat, u x.hook % 3 = k := ⟨(u x.hook % 3).toNat, by have := u_nonneg x.hook; omega⟩
     have hk3 : k < 3 := by omega
     have hA : w4.heap.size + 4 < wr.heap.size := HI.out.mem.i4.lt (by omega)
     go_upto_region 19 with fail
     generalize hW : World.alloc wr _ = w6
     have hb6 : Below wr.heap.size wr w6 := hW ▸ (Below.refl wr.heap.size wr).alloc (Nat.le_refl _) _
     have IX : P.Img w6 wr.heap.size 12 (fun j => x.cells.getD j undef) := hW ▸ Img.mk' (heap_alloc_new wr _) (by kernel_rfl)
     have HI6 := Lib.hid (HI.out.later hb6)
     have d0 : w6.cell? ⟨wr.heap.size, 0, none⟩ = some (.int .i64 x.what) := IX.cell 0 (by omega)
     have d1 : w6.cell? ⟨wr.heap.size, 1, none⟩ = some (.int .i64 x.hook) := IX.cell 1 (by omega)
     have d2 : w6.cell? ⟨wr.heap.size, 2, none⟩ = some (.int .i64 x.rank) := IX.cell 2 (by omega)
     have d3 : w6.cell? ⟨wr.heap.size, 3, none⟩ = some (.slice x.oa x.L.length x.cap) := IX.cell 3 (by omega)
     have d4 : w6.cell? ⟨wr.heap.size, 4, none⟩ = some (.int .i64 (x.told 0)) := IX.cell 4 (by omega)
     have d5 : w6.cell? ⟨wr.heap.size, 5, none⟩ = some (.int .i64 (x.told 1)) := IX.cell 5 (by omega)
     have d6 : w6.cell? ⟨wr.heap.size, 6, none⟩ = some (.int .i64 (x.told 2)) := IX.cell 6 (by omega)
     have d7 : w6.cell? ⟨wr.heap.size, 7, none⟩ = some (.int .i64 (x.told 3)) := IX.cell 7 (by omega)
     have d8 : w6.cell? ⟨wr.heap.size, 8, none⟩ = some (.int .i64 (x.told 4)) := IX.cell 8 (by omega)
     have d9 : w6.cell? ⟨wr.heap.size, 9, none⟩ = some (.int .i64 (x.told 5)) := IX.cell 9 (by omega)
     have d10 : w6.cell? ⟨wr.heap.size, 10, none⟩ = some (.int .i64 (x.told 6)) := IX.cell 10 (by omega)
     have d11 : w6.cell? ⟨wr.heap.size, 11, none⟩ = some (.int .i64 (x.told 7)) := IX.cell 11 (by omega)
     clear hW hb6 IX c0 c1 c2 c3 c4 c5 c6 c7 c8 c9 c10 c11 HI
     go_wp2_with fail
     refine (pick3 x.hook _).mono ?_
     rintro e w6 ⟨rfl, rfl⟩
     rw [hkk]
     clear hkk
     have hsm := HI6.out.small (by omega) hk3
     have HSM := Lib.hid hsm
     have k0 : ¬ (k : Int) < 0 := by omega
     have k4 : (k : Int) < 3 := by omega
     clear hsm
     go_upto_block 4 with fail
     go_cut [13] (fun y W => ∃ (d' : HD) (f' : FS) (vs' qs' : Nat → Value) (pls' : Nat → List (HP × Value)), y = .int .i64 f'.rounds ∧ FairInv w D w4.heap.size m (i + 1) d' f' vs' qs' pls' W)
     case first =>
      by_cases e0 : x.what = 0
      ·as_aux_lemma =>
        have b0 : (x.what == 0) = true := by simp [e0]
        clear e0
        have EV := fun h20 => Event_ok HI6.out.mem.desk k hk3 x.told h20
        have EF := fun h20 => Event_full HI6.out.mem.desk k hk3 x.told h20
        unfold t8 at EV EF
        have HEV := Lib.hid EV
        have HEF := Lib.hid EF
        clear EV EF
        go_wp2_with fail
        by_cases h20 : 20 ≤ (d.q k).length
        ·refine (HEF.out h20).mono ?_
         rintro e w7 ⟨rfl, hb⟩
         have HI7 := Lib.hid (HI6.out.later hb).idle
         clear hb
         go_wp2_with fail
         go_meet
         exact ⟨d, f, vs, qs, pls, rfl, HI7.out⟩
        ·refine (HEV.out (by omega)).mono ?_
         rintro e w7 ⟨rfl, qs', hd, hf, ho⟩
         have hm7 := HI6.out.mem.step hf hd ho
         have HM7 := Lib.hid hm7
         have ck : w7.cell? ⟨w4.heap.size + 1 + 1, k, none⟩ = some (.int .i64 (f.came k)) := hm7.i2.cell k hk3
         have gk : w7.frozen? ⟨w4.heap.size + 1 + 1, k, none⟩ = false := hm7.i2.free k hk3
         have hcm := HSM.out.came
         have hw : IntKind.i64.wrap (f.came k + 1) = f.came k + 1 := by rw [IntKind.wrap_i64]; omega
         clear hm7 hd hf ho
         go_wp2_with fail
         go_meet
         exact ⟨_, { f with came := upd f.came k (f.came k + 1) }, vs, qs', pls, rfl, HI6.out.event hk3 x.told h20 (HM7.out.setC hk3 _)⟩
      by_cases e2 : x.what = 2
      ·as_aux_lemma =>
        have b0 : (x.what == 0) = false := by simp [e0]
        have b2 : (x.what == 2) = true := by simp [e2]
        clear e0 e2
        go_wp2_with fail
        refine (Chain_in HI6.out.mem.desk k hk3).mono ?_
        rintro e w6 ⟨rfl, rfl⟩
        by_cases h6 : x.L.length ≤ 60
        ·have h6' : (x.L.length : Int) ≤ 60 := by omega
         go_wp2_with fail
         refine (Attach_all HI6.out.mem.desk k hk3 x HX.out HI6.out.mem.below (fun b hb e => by have := (HI6.out.mem.own b e).1; omega) (HG.out.later HI6.out.mem.below) (by have := HI6.out.next k hk3; omega)).mono ?_
         rintro e w7 ⟨⟨er, rfl⟩, vs', pls', hd, hf, ho⟩
         have HI7 := Lib.hid (HI6.out.attach hk3 x.L x.rank (HI6.out.mem.step hf hd ho))
         clear hd hf ho
         go_wp2_with fail
         go_meet
         exact ⟨_, f, vs', qs, pls', rfl, HI7.out⟩
        ·have h6' : ¬ (x.L.length : Int) ≤ 60 := by omega
         have HI7 := Lib.hid HI6.out.idle
         go_wp2_with fail
         go_meet
         exact ⟨d, f, vs, qs, pls, rfl, HI7.out⟩
      by_cases e1 : x.what = 1
      ·as_aux_lemma =>
        have b0 : (x.what == 0) = false := by simp [e0]
        have b1 : (x.what == 1) = true := by simp [e1]
        have b2 : (x.what == 2) = false := by simp [e2]
        clear e0 e1 e2
        have hrd := HI6.out.rounds
        have htm := HI6.out.time
        have hr1 : IntKind.i64.wrap (f.rounds + 1) = f.rounds + 1 := by rw [IntKind.wrap_i64]; omega
        go_wp2_with fail
        have hall := fun j (hj : j < 3) => HI6.out.small (by omega) hj
        refine (Round_any HI6.out.mem.desk (HG.out.later HI6.out.mem.below) (fun e => by have := (HI6.out.mem.own _ e).1; omega) (fun j hj => by have := (hall j hj).left; omega) (fun j hj => by have := (hall j hj).may; omega) (by omega) (fun j hj => (hall j hj).few)).mono ?_
        rintro e w7 ⟨y, qs', pls', L, rfl, hR⟩
        obtain ⟨oy, cy, rfl⟩ := own_form hR.dones.row
        have HM7 := Lib.hid (HI6.out.mem.step hR.frm hR.desk hR.own)
        have HD7 := Lib.hid hR.dones
        have HE7 := Lib.hid hR.eq
        have HLL := Lib.hid (show L.length = d.done.length by rw [← hR.eq, List.length_map])
        have HL60 := Lib.hid (show d.done.length ≤ 60 from hdDones_len d (fun j hj => (hall j hj).few) 3 (by omega))
        have HDOK := Lib.hid (done_ok HI6.out.inv.short)
        have HAS := Lib.hid (fun l hl => adds_small l f hl fun j hj => ⟨(hall j hj).spent.1, (hall j hj).most.1, (hall j hj).most.2, (hall j hj).went.1⟩)
        have HSA := Lib.hid hall
        clear hR hall hrd htm hr1
        go_wp2_with fail
        go_loopw [109] (fun x wz => ∃ j : Nat, j ≤ L.length ∧ x = .int .i64 j ∧ FairAt w D w4.heap.size m d.round vs qs' pls' (f.adds (d.done.take j)).spent (f.adds (d.done.take j)).most f.came (f.adds (d.done.take j)).went f.always wz ∧ DonesAt wz w6.heap.size L (.slice oy L.length cy)) (fun x _ => L.length - (intOf x).toNat)
        case atStart => exact ⟨0, Nat.zero_le _, rfl, HM7.out, HD7.out⟩
        case round =>
         obtain ⟨j, hj, rfl, hM, hD⟩ := hrel
         have HM := Lib.hid hM
         have HD := Lib.hid hD
         clear hM hD
         by_cases hjl : j < L.length
         ·have hjl' : (j : Int) < L.length := by omega
          obtain ⟨z, hz⟩ : ∃ z, L[j]? = some z := ⟨_, List.getElem?_eq_getElem hjl⟩
          have hzd : d.done[j]? = some (z.1, z.2.1) := by rw [← HE7.out, List.getElem?_map, hz]; rfl
          obtain ⟨h, hh3, hzh, hs0, hs1⟩ := HDOK.out _ (List.mem_of_getElem? hzd)
          obtain ⟨g, cap2, heq, hgl, hrng⟩ := dones_form HD.out hz
          obtain ⟨zh, zs, zo⟩ := z
          simp only at hzh hs0 hs1
          subst hzh
          obtain ⟨og, co, ho⟩ := own_form (HD.out.outs _ (List.mem_of_getElem? hz))
          simp only at ho
          subst ho
          simp only [Value.slice.injEq, true_and] at heq
          obtain ⟨rfl, rfl⟩ := heq
          obtain ⟨t, ht⟩ : ∃ t, f.adds (d.done.take j) = t := ⟨_, rfl⟩
          have hnx : f.adds (d.done.take (j + 1)) = t.add ((h : Int), zs) := by
           rw [List.take_add_one, hzd, Option.toList_some, adds_app, ht]; rfl
          have hsm := HAS.out (d.done.take j) (fun y hy => HDOK.out y (List.mem_of_mem_take hy)) h hh3
          have hlt : (d.done.take j).length ≤ 60 := by rw [List.length_take]; have := HL60.out; omega
          rw [ht] at hsm
          have hsf := HSA.out h hh3
          have hsp0 := hsf.spent; have hwe0 := hsf.went
          have HNX := Lib.hid hnx
          have HMt := Lib.hid (show FairAt w D w4.heap.size m d.round vs qs' pls' t.spent t.most f.came t.went f.always _ from ht ▸ HM.out)
          have q0 : _ = some (Value.int .i64 (h : Int)) := hrng 0 _ rfl
          have q1 : _ = some (Value.int .i64 zs.by_) := hrng 1 _ rfl
          have q2 : _ = some (Value.int .i64 zs.num) := hrng 2 _ rfl
          have q3 : _ = some (Value.slice og zs.out.length co) := hrng 3 _ rfl
          have q4 : _ = some (Value.int .i64 zs.steps) := hrng 4 _ rfl
          rw [Nat.add_zero] at q0
          have hAz : w4.heap.size + 4 < _ := HMt.out.i4.lt (by omega)
          have n0 : ¬ (h : Int) < 0 := by omega
          have n1 : ¬ 2 < (h : Int) := by omega
          have n2 : ¬ zs.steps < 0 := by omega
          have n3 : (h : Int) < 3 := by omega
          have hw1 : IntKind.i64.wrap (zs.steps + 1) = zs.steps + 1 := by rw [IntKind.wrap_i64]; omega
          have hw2 : IntKind.i64.wrap (t.spent h + (zs.steps + 1)) = t.spent h + (zs.steps + 1) := by rw [IntKind.wrap_i64]; omega
          have hw3 : IntKind.i64.wrap (t.went h + 1) = t.went h + 1 := by rw [IntKind.wrap_i64]; omega
          clear hrng ht hnx hsm hlt hsf hsp0 hwe0 hzd hz HM
          go_upto_region 33 with fail
          generalize hW : World.alloc wr _ = w8
          have hb8 : Below wr.heap.size wr w8 := hW ▸ (Below.refl wr.heap.size wr).alloc (Nat.le_refl _) _
          have IY : P.Img w8 wr.heap.size 5 (fun j => (done5 ((h : Int), zs, .slice og zs.out.length co)).getD j undef) := hW ▸ Img.mk' (heap_alloc_new wr _) (by kernel_rfl)
          have y0 : w8.cell? ⟨wr.heap.size, 0, none⟩ = some (.int .i64 (h : Int)) := IY.cell 0 (by omega)
          have y4 : w8.cell? ⟨wr.heap.size, 4, none⟩ = some (.int .i64 zs.steps) := IY.cell 4 (by omega)
          have HM8 := Lib.hid (HMt.out.later hb8)
          have HD8 := Lib.hid (HD.out.later hb8)
          have sp8 : w8.cell? ⟨w4.heap.size, h, none⟩ = some (.int .i64 (t.spent h)) := HM8.out.i0.cell h hh3
          have gs8 : w8.frozen? ⟨w4.heap.size, h, none⟩ = false := HM8.out.i0.free h hh3
          have HIY := Lib.hid IY
          have m0 : ¬ w4.heap.size = wr.heap.size := by omega
          have m1 : ¬ wr.heap.size = w4.heap.size := by omega
          clear hW hb8 IY q0 q1 q2 q3 q4 HMt HD
          go_upto_region 37 with fail
          clear y0 y4 sp8 gs8 hw1 hw2
          have hM9 := HM8.out.setS hh3 (t.spent h + (zs.steps + 1))
          have hD9 := (show DonesAt (World.setCell w8 ⟨w4.heap.size, h, none⟩ (.int .i64 (t.spent h + (zs.steps + 1)))) _ _ _ from HM8.out.donesSet HD8.out (j := 0) (by omega) h _)
          have IY9 := (setCell_frm w8 w4.heap.size h (.int .i64 (t.spent h + (zs.steps + 1)))).img HIY.out (by omega) (by omega)
          generalize World.setCell w8 _ _ = w9 at hM9 hD9 IY9 ⊢
          have y0 : w9.cell? ⟨wr.heap.size, 0, none⟩ = some (.int .i64 (h : Int)) := IY9.cell 0 (by omega)
          have mo9 : w9.cell? ⟨w4.heap.size + 1, h, none⟩ = some (.int .i64 (t.most h)) := hM9.i1.cell h hh3
          have gm9 : w9.frozen? ⟨w4.heap.size + 1, h, none⟩ = false := hM9.i1.free h hh3
          have HM9 := Lib.hid hM9
          have HD9 := Lib.hid hD9
          have HIY9 := Lib.hid IY9
          have m2 : ¬ w4.heap.size + 1 = wr.heap.size := by omega
          have m3 : ¬ w4.heap.size + 1 + 1 + 1 = wr.heap.size := by omega
          clear hM9 hD9 IY9 HM8 HD8 HIY
          go_cut [138] (fun _ W => FairAt w D w4.heap.size m d.round vs qs' pls' (upd t.spent h (t.spent h + (zs.steps + 1))) (upd t.most h (max (t.most h) (zs.steps + 1))) f.came t.went f.always W ∧ DonesAt W w6.heap.size L (.slice (some ⟨g, 0, none⟩) L.length cy) ∧ P.Img W wr.heap.size 5 (fun j => (done5 ((h : Int), zs, .slice og zs.out.length co)).getD j undef))
          case first =>
           go_region
           go_wp2_with fail
           go_meet
           go_light
           refine ⟨(HM9.out.setM hh3 _).later ((Below.refl _ _).drew), (HM9.out.donesSet HD9.out (j := 1) (by omega) h _).later ((Below.refl _ _).drew), ((setCell_frm w9 (w4.heap.size + 1) h _).img HIY9.out (by omega) (by omega)).drew⟩
          case rest =>
           obtain ⟨hM10, hD10, IY10⟩ := hcut
           obtain ⟨w10, hw10⟩ : ∃ z, z = wc := ⟨_, rfl⟩; subst hw10
           have y0' : w10.cell? ⟨wr.heap.size, 0, none⟩ = some (.int .i64 (h : Int)) := IY10.cell 0 (by omega)
           have we10 : w10.cell? ⟨w4.heap.size + 1 + 1 + 1, h, none⟩ = some (.int .i64 (t.went h)) := hM10.i3.cell h hh3
           have gw10 : w10.frozen? ⟨w4.heap.size + 1 + 1 + 1, h, none⟩ = false := hM10.i3.free h hh3
           have HM11 := Lib.hid (hM10.setW hh3 (t.went h + 1))
           have HD11 := Lib.hid (hM10.donesSet hD10 (j := 3) (by omega) h (.int .i64 (t.went h + 1)))
           clear hM10 hD10 IY10 y0 mo9 gm9 HM9 HD9 HIY9
           have hj60 : j ≤ 60 := by have := HLL.out; have := HL60.out; omega
           go_wp2_with fail
           refine ⟨⟨j + 1, by omega, by go_num, by rw [HNX.out]; exact HM11.out, HD11.out⟩, ?_⟩
           show L.length - ((j : Int) + 1).toNat < L.length - (j : Int).toNat
           omega
         ·obtain rfl : j = L.length := by omega
          have hM := HM.out
          rw [HLL.out, List.take_length] at hM
          have HM3 := Lib.hid hM
          clear hM HM HD
          go_wp2_with fail
          go_loopw [22] (fun y wz => ∃ h : Nat, h ≤ 3 ∧ y = .int .i64 h ∧ FairAt w D w4.heap.size m d.round vs qs' pls' (f.adds d.done).spent (f.adds d.done).most f.came (f.adds d.done).went (fun j => if j < h then (f.always j && decide (0 < (d.round.q j).length)) else f.always j) wz) (fun y _ => 3 - (intOf y).toNat)
          case atStart => exact ⟨0, by omega, rfl, HM3.out.alCongr fun j _ => by rw [if_neg (by omega)]⟩
          case round =>
           obtain ⟨h, hh, rfl, hM4⟩ := hrel
           have HM4 := Lib.hid hM4
           clear HM3
           by_cases hh3 : h < 3
           ·have h4 : (h : Int) < 3 := by omega
            have al : _ = some (Value.bool (if h < h then (f.always h && decide (0 < (d.round.q h).length)) else f.always h)) := (show P.Img _ (w4.heap.size + 1 + 1 + 1 + 1) 3 _ from hM4.i4).cell h hh3
            rw [if_neg (Nat.lt_irrefl h)] at al
            have ga : _ = false := (show P.Img _ (w4.heap.size + 1 + 1 + 1 + 1) 3 _ from hM4.i4).free h hh3
            have HNEXT := Lib.hid (fun v (hv : v = (f.always h && decide (0 < (d.round.q h).length))) => (hM4.setA hh3 v).alCongr fun j _ => congrFun ((congrArg _ hv).trans (al_step f.always (fun j => decide (0 < (d.round.q j).length)) h)) j)
            clear hM4
            cases hal : f.always h
            ·rw [hal] at al
             go_wp2_with fail
             go_roundw
             case rel => exact ⟨h + 1, by omega, by go_num, HNEXT.out false (by rw [hal]; rfl)⟩
             case measure => simp [intOf]; omega
            ·rw [hal] at al
             go_wp2_with fail
             refine (Waits_in HM4.out.desk h hh3).mono ?_
             rintro e wr ⟨rfl, rfl⟩
             by_cases hq : 0 < (d.round.q h).length
             ·have hq1 : (0 : Int) < ((d.round.q h).length : Int) := by omega
              go_wp2_with fail
              go_roundw
              case rel => exact ⟨h + 1, by omega, by go_num, HNEXT.out true (by rw [hal, decide_eq_true hq]; rfl)⟩
              case measure => simp [intOf]; omega
             ·have hq1 : ¬ (0 : Int) < ((d.round.q h).length : Int) := by omega
              go_wp2_with fail
              go_roundw
              case rel => exact ⟨h + 1, by omega, by go_num, HNEXT.out false (by rw [hal, decide_eq_false hq]; rfl)⟩
              case measure => simp [intOf]; omega
           ·obtain rfl : h = 3 := by omega
            clear hM4
            go_wp2_with fail
            go_meet
            exact ⟨d.round, f.round d, vs, qs', pls', rfl, HI6.out.round (HM4.out.alCongr fun j hj => by rw [if_pos hj]; rfl)⟩
      ·as_aux_lemma =>
        have b0 : (x.what == 0) = false := by simp [e0]
        have b1 : (x.what == 1) = false := by simp [e1]
        have b2 : (x.what == 2) = false := by simp [e2]
        clear e0 e1 e2
        have HI7 := Lib.hid HI6.out.idle
        go_wp2_with fail
        go_meet
        exact ⟨d, f, vs, qs, pls, rfl, HI7.out⟩
     case rest =>
      obtain ⟨d', f', vs', qs', pls', rfl, hI7⟩ := hcut
      obtain ⟨w7, hw7⟩ : ∃ z, z = wc := ⟨_, rfl⟩; subst hw7
      have HI7 := Lib.hid hI7
      clear hI7 HI6 HSM d0 d1 d2 d3 d4 d5 d6 d7 d8 d9 d10 d11 k0 k4
      go_wp2_with fail
      go_loopw [23] (fun y wz => ∃ h : Nat, h ≤ 3 ∧ y = .int .i64 h ∧ FairInv w D w4.heap.size m (i + 1) d' f' vs' qs' pls' wz) (fun y _ => 3 - (intOf y).toNat)
      case atStart => exact ⟨0, by omega, rfl, HI7.out⟩
      case round =>
       obtain ⟨h, hh, rfl, hI8⟩ := hrel
       by_cases hh3 : h < 3
       ·have h4 : (h : Int) < 3 := by omega
        have sm := hI8.small (by omega) hh3
        have ho := (hI8.inv.hook h hh3).holds
        have r0 := hI8.rounds
        obtain ⟨s1, s2, s3, s4, s5, s6, s7, s8⟩ := sm
        rw [hI8.may_] at s1 s7 ho
        obtain ⟨p, hp⟩ : ∃ p, f'.rounds * m h = p := ⟨_, rfl⟩
        rw [hp] at s7 ho
        have ca : _ = some (Value.int .i64 (f'.came h)) := (show P.Img _ (w4.heap.size + 1 + 1) 3 _ from hI8.mem.i2).cell h hh3
        have we : _ = some (Value.int .i64 (f'.went h)) := (show P.Img _ (w4.heap.size + 1 + 1 + 1) 3 _ from hI8.mem.i3).cell h hh3
        have sp : _ = some (Value.int .i64 (f'.spent h)) := hI8.mem.i0.cell h hh3
        have mo : _ = some (Value.int .i64 (f'.most h)) := hI8.mem.i1.cell h hh3
        have al : _ = some (Value.bool (f'.always h)) := (show P.Img _ (w4.heap.size + 1 + 1 + 1 + 1) 3 _ from hI8.mem.i4).cell h hh3
        have bx : _ = some (Value.int .i64 (m h)) := hI8.mem.box.cell h hh3
        have HI8 := Lib.hid hI8
        have hw1 : IntKind.i64.wrap (f'.came h - f'.went h) = ((d'.q h).length : Int) := by rw [IntKind.wrap_i64]; omega
        have hw2 : IntKind.i64.wrap (f'.rounds * m h) = p := by rw [hp, IntKind.wrap_i64]; omega
        have hw3 : IntKind.i64.wrap (p + f'.most h) = p + f'.most h := by rw [IntKind.wrap_i64]; omega
        have hn1 : ¬ p + f'.most h < f'.spent h := by omega
        have hn2 := ho.2.2
        clear ho hI8 hp s1 s2 s3 s4 s5 s6 s7 s8
        have HWQ := Lib.hid (fun n => Waits_in (w := World.drewN wr n) (HI8.out.mem.desk.later (below_drewN wr n)) h hh3)
        go_upto_region 47 with fail
        go_cut [218] (fun b W => b = .bool false ∧ FairInv w D w4.heap.size m (i + 1) d' f' vs' qs' pls' W)
        case first =>
         by_cases hr : 0 < f'.rounds
         ·have hrb : decide (0 < f'.rounds) = true := by simpa using hr
          cases hal : f'.always h
          ·rw [hal] at al
           clear hn2 hal
           go_quiet ((go_at_call 15; exact Calls.quiet_of_same (HWQ.out _)))
           all_goals
            go_wp2_with fail
            go_meet
            exact ⟨rfl, HI8.out.later (below_drewN _ _)⟩
          ·rw [hal] at al
           have hn3 := hn2 hr hal
           have hn4 : ¬ f'.spent h < p := by omega
           clear hn2 hn3 hal
           go_quiet ((go_at_call 15; exact Calls.quiet_of_same (HWQ.out _)))
           all_goals
            go_wp2_with fail
            go_meet
            exact ⟨rfl, HI8.out.later (below_drewN _ _)⟩
         ·have hrb : decide (0 < f'.rounds) = false := by simpa using hr
          clear hn2
          go_quiet ((go_at_call 15; exact Calls.quiet_of_same (HWQ.out _)))
          all_goals
           go_wp2_with fail
           go_meet
           exact ⟨rfl, HI8.out.later (below_drewN _ _)⟩
        case rest =>
         obtain ⟨rfl, hI9⟩ := hcut
         have HI9 := Lib.hid hI9
         clear hI9 HI8 ca we sp mo al bx hw1 hw2 hw3 hn1 hn2
         go_wp2_with fail
         go_roundw
         case rel => exact ⟨h + 1, by omega, by go_num, HI9.out⟩
         case measure => simp [intOf]; omega
       ·obtain rfl : h = 3 := by omega
        have HI8 := Lib.hid hI8
        clear hI8
        go_wp2_with fail
        refine ⟨⟨i + 1, d', f', vs', qs', pls', by omega, by go_num, rfl, HI8.out⟩, ?_⟩
        show n - ((i : Int) + 1).toNat < n - (i : Int).toNat
        omega
    ·obtain rfl : i = n := by omega
     go_wp2_with fail
     go_ret
     exact ⟨rfl, HI.out.mem.below⟩
end Go.Proofs.YtpdlmbbgioenoaaGreatDoor.W
namespace Go.Proofs.YtpdlmbbgioenoaaGreatDoor.hookFair
open Go.ChangeShapes Go.WideShapes Go.ChangeAt Go.RowKit Go.Joins Go.Deep Go.Proofs.YtpdlmbbgioenoaaGreatDoor.R
theorem own : ownKnob Tryz.prog.godebug = none := by kernel_rfl
theorem lifted (os : Os) (started : os.Started) (H : Type) (enc : TypeId × Value → H) :
  ReturnsInHanded {} Tryz.checked os 8 .any (fun w args => (Rows.hookFairSpec.pre enc Tryz.prog Tryz.f8 [] false w args ∧ laidMetH Tryz.prog Rows.hookFairRow.laid w) ∧ sizedMet enc Tryz.prog Tryz.f8 (OpenSpec.ofChange Rows.hookFairSpec) false w args)
   (Rows.hookFairSpec.post enc Tryz.prog Tryz.f8 false true false false) := by
 refine returnsInHanded_of_change_and (C := Tryz.checked) (X := fun w _ => laidMetH Tryz.prog Rows.hookFairRow.laid w) (fun _ _ _ hh h => h.of_heap hh) own started (by kernel_rfl) Tryz.func8
  (ChangeSpec.witness_shaped (enc := enc) (C := Tryz.checked) (os := os) (X := fun w _ => laidMetH Tryz.prog Rows.hookFairRow.laid w) false (LaidB3.doorW os) #[.agg #[.int .i64 0, .int .i64 0, .int .i64 0], .slice none 0 0] 8 (LaidB3.doorW_os os) (LaidB3.door_shaped os _) (by kernel_rfl) (by kernel_rfl) (by kernel_rfl) (LaidB3.door_met os _)) ?_
 intro W base args ds gs before hval0 hW _ _ hL _
 have hval : ∀ (j : Nat) t v, Tryz.f8.params[j]? = some t → args[j]? = some v → Value.okWide Tryz.prog W .any base t v := hval0
 have hW' := hW
 obtain ⟨p, q, hA0, hV, rfl, hfz, hnd⟩ := hW
 have hA : DataW.TrodAll enc Tryz.prog W 0 (fun _ => true) true Tryz.f8.params.toList args.toList ds p := hA0
 rw [Tryz.params8] at hA hval
 obtain ⟨v0, vs0, d0, ds0, p0, q0, hargs, rfl, rfl, h0, r0⟩ := trodAll_cons hA
 obtain ⟨v1, vs1, d1, ds1, p1, q1, rfl, rfl, rfl, h1, r1⟩ := trodAll_cons r0
 obtain ⟨rfl, rfl, rfl⟩ := trodAll_nil r1
 obtain rfl : args = #[v0, v1] := by cases args; simp_all
 obtain ⟨rfl, rfl⟩ := trodVars_none hV
 obtain ⟨may, rfl⟩ := three_of_reads (hval 0 22 v0 rfl rfl) h0
 have hg := LaidB3.handle hL
 have hr := LaidB3.rtabs hL
 have hlt : ∀ x ∈ p0 ++ (p1 ++ []), x.block < W.heap.size := fun x hx => hW'.lt x (by simpa using hx)
 have fin : ∀ W' : World, Below W.heap.size W W' → Rows.hookFairSpec.post enc Tryz.prog Tryz.f8 false true false false W #[.agg #[.int .i64 (may 0), .int .i64 (may 1), .int .i64 (may 2)], v1] (.bool true) W' := fun W' hb =>
  Go.Proofs.YtpdlmbbgioenoaaGreatDoor.W.post_old (pa := p0 ++ (p1 ++ [])) (pv := []) hb hW' rfl (fun _ _ _ => (trodAll_cons_mk (shut_bool Tryz.underlying4 _) trodAll_mk0))
   (fun sp hsp => trodAll_cons_mk (WideElems.Trod_stays laidOut (by kernel_rfl) (of_decide_eq_true (by kernel_rfl)) h0 (fun x hx => hb.same (hlt x (by simp [hx]))) (fun x hx => hsp x (by simp [hx])))
    (trodAll_cons_mk (WideElems.Trod_stays laidOut (by kernel_rfl) (of_decide_eq_true (by kernel_rfl)) h1 (fun x hx => hb.same (hlt x (by simp [hx]))) (fun x hx => hsp x (by simp [hx])))
    trodAll_mk0))
   (fun _ _ => rfl) (ok_one (by kernel_rfl) rfl (okWide_bool_mk Tryz.underlying4 _))
 clear hA0
 obtain ⟨oa, len, cap, rfl⟩ := okWide_slice Tryz.underlying92 (hval 1 92 v1 rfl rfl)
 obtain ⟨fuel, hf⟩ := h1
 obtain ⟨oa', cap', l, hv, hcap, hat, hok⟩ := acts_of_reads (show DataW.trod enc Tryz.prog W 0 (fun _ => true) true fuel 92 [.slice oa len cap] = some (d1, p1) by simpa [Value.cells] using hf)
 simp only [Value.slice.injEq] at hv
 obtain ⟨rfl, hln, rfl⟩ := hv
 by_cases hbig : 60 < len
 ·refine (Go.Proofs.YtpdlmbbgioenoaaGreatDoor.W.hookFair_big may oa len cap hbig W).mono fun e W' ⟨he, hb⟩ => ?_
  subst he
  exact ⟨_, rfl, fin W' hb⟩
 ·refine (Go.Proofs.YtpdlmbbgioenoaaGreatDoor.W.hookFair_walk may oa cap l len hln.symm (by omega) hbig W hat hok hr hg).mono fun e W' ⟨he, hb⟩ => ?_
  subst he
  exact ⟨_, rfl, fin W' hb⟩
theorem over : Rows.HookFairSaid :=
 OpenClaim.holds_of_wide 8 Tryz.f8 rfl rfl rfl rfl rfl rfl rfl ⟨rfl, rfl, rfl, rfl, rfl⟩ rfl rfl rfl rfl rfl (by kernel_rfl) Tryz.func8 hookFairClosed.closed
  (of_decide_eq_true (by kernel_rfl)) (by unfold Func.isWrapper; first | (rw [if_pos (by decide +kernel)]; kernel_rfl) | (rw [if_neg (by decide +kernel)]; exact ⟨rfl, rfl⟩))
  (fun os started H enc _ => lifted os started H enc)
theorem proved : Rows.HookFairCardSaid :=
 Claim7.holds_tied_plain_at .later [] [.data, .data, .data, .data, .handle, .sentinel, .sentinel, .widerDeep, .widerDeep, .pinned] true _ true
  over (fun _ h => by cases h) (by kernel_rfl) (fun _ h => by cases h) hookFair_row_tie rfl ⟨rfl, rfl⟩ (by kernel_rfl) rfl
  (fun f fn hf hfn => by
   obtain rfl : f = 8 := Option.some.inj ((show Tryz.prog.funcNamed "gatehouse/gatehousekeep.HookFair" = some 8 by kernel_rfl).symm.trans hf) |>.symm
   obtain rfl : fn = Tryz.f8 := (Option.some.inj (Tryz.func8.symm.trans hfn)).symm
   exact ⟨by kernel_rfl, fun j t ht => by
    rw [Tryz.params8] at ht
    have hm : t ∈ [22, 92] := by simpa using Array.mem_of_getElem? ht
    have hall : ([22, 92].all fun u => !Tryz.prog.wantsStandIn u) = true := by kernel_rfl
    exact (show Tryz.prog.wantsStandIn t = false by simpa using List.all_eq_true.1 hall t hm)⟩)
  (by kernel_rfl)
#print axioms proved
end Go.Proofs.YtpdlmbbgioenoaaGreatDoor.hookFair
