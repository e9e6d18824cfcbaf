/- A block of cells as a function from numbers to values, and what stores, new blocks and draws do to it. No conditions. -/
import Derived.Below
import Derived.WalkKit
import Derived.Laws.IdiomCopy
import Derived.Laws.IdiomRangeMap
import Derived.Deep.Draws
namespace Go.Proofs.YtglilddlhibogaaGreatDoor.P
open Go.RowKit
set_option linter.unusedSimpArgs false
set_option linter.unusedVariables false

/-- a function, turned at one place -/
def upd {α : Type} (f : Nat → α) (i : Nat) (v : α) : Nat → α := fun j => if j = i then v else f j
theorem upd_same {α : Type} (f : Nat → α) (i : Nat) (v : α) : upd f i v i = v := if_pos rfl
theorem upd_other {α : Type} {f : Nat → α} {i j : Nat} {v : α} (h : j ≠ i) : upd f i v j = f j := if_neg h

/-- block b has cells 0 to n - 1 as I says; none is frozen -/
def Img (w : World) (b n : Nat) (I : Nat → Value) : Prop := ∀ j, j < n → w.cell? ⟨b, j, none⟩ = some (I j) ∧ w.frozen? ⟨b, j, none⟩ = false

theorem Img.cell {w : World} {b n : Nat} {I : Nat → Value} (h : Img w b n I) (j : Nat) (hj : j < n) : w.cell? ⟨b, j, none⟩ = some (I j) := (h j hj).1
theorem Img.free {w : World} {b n : Nat} {I : Nat → Value} (h : Img w b n I) (j : Nat) (hj : j < n) : w.frozen? ⟨b, j, none⟩ = false := (h j hj).2
theorem Img.lt {w : World} {b n : Nat} {I : Nat → Value} (h : Img w b n I) (hn : 0 < n) : b < w.heap.size := World.block_lt_of_cell? w ⟨b, 0, none⟩ (h.cell 0 hn)
theorem Img.later {w w' : World} {b n B : Nat} {I : Nat → Value} (h : Img w b n I) (hb : Below B w w') (hl : b < B) : Img w' b n I := fun j hj =>
 ⟨(hb.cell (p := ⟨b, j, none⟩) hl).trans (h j hj).1, (hb.frozen (p := ⟨b, j, none⟩) hl).trans (h j hj).2⟩
theorem Img.of_block {w w' : World} {b n : Nat} {I : Nat → Value} (h : Img w b n I) (hb : w'.heap[b]? = w.heap[b]?) : Img w' b n I := fun j hj =>
 ⟨(World.cell?_of_block (w := w) (a := ⟨b, j, none⟩) hb).trans (h j hj).1, (World.frozen?_of_block (w := w) (a := ⟨b, j, none⟩) hb).trans (h j hj).2⟩
theorem Img.alloc {w : World} {b n : Nat} {I : Nat → Value} (h : Img w b n I) (o : Obj) : Img (w.alloc o) b n I := by
 intro j hj
 have hl := World.block_lt_of_cell? w ⟨b, j, none⟩ (h j hj).1
 exact ⟨(World.cell?_of_block (w := w) (a := ⟨b, j, none⟩) (Below.heap_alloc w o b hl)).trans (h j hj).1, (World.frozen?_of_block (w := w) (a := ⟨b, j, none⟩) (Below.heap_alloc w o b hl)).trans (h j hj).2⟩
theorem Img.drew {w : World} {b n : Nat} {I : Nat → Value} (h : Img w b n I) : Img w.drew b n I := h
theorem Img.drewN {w : World} {b n : Nat} {I : Nat → Value} (h : Img w b n I) (k : Nat) : Img (w.drewN k) b n I := h
theorem Img.other {w : World} {b n : Nat} {I : Nat → Value} (h : Img w b n I) {a : Addr} (ha : a.block ≠ b) (v : Value) : Img (w.setCell a v) b n I :=
 h.of_block (Below.heap_setCell w a v b (Ne.symm ha))
theorem Img.set {w : World} {b n : Nat} {I : Nat → Value} (h : Img w b n I) {j : Nat} (hj : j < n) (v : Value) : Img (w.setCell ⟨b, j, none⟩ v) b n (upd I j v) := by
 intro i hi
 refine ⟨?_, by simpa using (h i hi).2⟩
 by_cases e : i = j
 ·subst e; rw [upd_same]; exact World.cell?_setCell_same w _ v (h.cell i hi)
 ·rw [upd_other e, World.cell?_setCell_other w _ _ v (fun x => e (Addr.mk.inj x).2.1.symm)]; exact h.cell i hi
theorem Img.congr {w : World} {b n : Nat} {I I' : Nat → Value} (h : Img w b n I) (e : ∀ j, j < n → I j = I' j) : Img w b n I' := fun j hj => ⟨(e j hj) ▸ (h j hj).1, (h j hj).2⟩
/-- a block that is known whole -/
theorem Img.of_cells {w : World} {b n : Nat} {c : Array Value} {t : TypeId} (hb : w.heap[b]? = some (.cells c t (0, 0))) (hn : n = c.size) {I : Nat → Value} (e : ∀ j, j < n → c[j]? = some (I j)) : Img w b n I := by
 intro j hj
 constructor
 ·simp only [World.cell?, hb, Option.isSome_none, Bool.false_eq_true, if_false]; simp [e j hj]
 ·simp [World.frozen?, hb]
/-- a new block -/
theorem Img.new {w : World} {n : Nat} {c : Array Value} {t : TypeId} (hn : n = c.size) {I : Nat → Value} (e : ∀ j, j < n → c[j]? = some (I j)) : Img (w.alloc (.cells c t (0, 0))) w.heap.size n I :=
 Img.of_cells (heap_alloc_new w _) hn e

/-- all blocks that were there are as they were, but for block b -/
structure But (b : Nat) (w w' : World) : Prop where
 os : w'.os = w.os
 tape : w'.tape = w.tape
 output : w'.output = w.output
 size : w.heap.size ≤ w'.heap.size
 block : ∀ k, k < w.heap.size → k ≠ b → w'.heap[k]? = w.heap[k]?
theorem But.refl (b : Nat) (w : World) : But b w w := ⟨rfl, rfl, rfl, Nat.le_refl _, fun _ _ _ => rfl⟩
theorem But.trans {b : Nat} {x y z : World} (h : But b x y) (k : But b y z) : But b x z :=
 ⟨k.os.trans h.os, k.tape.trans h.tape, k.output.trans h.output, Nat.le_trans h.size k.size, fun i hi ne => (k.block i (Nat.lt_of_lt_of_le hi h.size) ne).trans (h.block i hi ne)⟩
theorem But.of {b : Nat} {w w' : World} (h : Below w.heap.size w w') : But b w w' := ⟨h.os, h.tape, h.output, h.size, fun k hk _ => h.block k hk⟩
theorem But.drew {b : Nat} {x w : World} (h : But b x w) : But b x w.drew := ⟨h.os, h.tape, h.output, h.size, h.block⟩
theorem But.drewN {b : Nat} {x w : World} (h : But b x w) (n : Nat) : But b x (w.drewN n) := ⟨h.os, h.tape, h.output, h.size, h.block⟩
theorem But.alloc {b : Nat} {x w : World} (h : But b x w) (o : Obj) : But b x (w.alloc o) :=
 h.trans ⟨rfl, rfl, rfl, by simp, fun k hk _ => Below.heap_alloc _ _ _ hk⟩
theorem But.setCell {b : Nat} {x w : World} (h : But b x w) {p : Addr} (hp : p.block = b ∨ x.heap.size ≤ p.block) (u : Value) : But b x (w.setCell p u) :=
 ⟨h.os, h.tape, h.output, by simpa using h.size, fun k hk ne => (Below.heap_setCell _ _ _ _ (by omega)).trans (h.block k hk ne)⟩
theorem But.below {b : Nat} {w w' : World} (h : But b w w') (hb : b ≤ w.heap.size) : Below b w w' := ⟨h.os, h.tape, h.output, h.size, fun k hk => h.block k (by omega) (by omega)⟩
theorem But.grown {b : Nat} {w w' : World} (h : But b w w') : w.grownBy w' (some b) := ⟨h.os, h.tape, h.output, h.size, fun k hk ne => h.block k hk (fun e => ne (congrArg some e))⟩
theorem But.cell {b : Nat} {w w' : World} (h : But b w w') {p : Addr} {v : Value} (e : w.cell? p = some v) (ne : p.block ≠ b) : w'.cell? p = some v :=
 (World.cell?_of_block (w := w) (h.block p.block (World.block_lt_of_cell? w p e) ne)).trans e
theorem But.img {b g n : Nat} {w w' : World} {I : Nat → Value} (h : But b w w') (hI : Img w g n I) (hn : 0 < n) (ne : g ≠ b) : Img w' g n I := hI.of_block (h.block g (hI.lt hn) ne)
end Go.Proofs.YtglilddlhibogaaGreatDoor.P
