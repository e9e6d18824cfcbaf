/- The reference's look: what its block holds, what its walk leaves. No conditions. -/
import Derived.Test.YtfpoicdfkjbknaaDoorVHelp
import Derived.Test.YtfpoicdfkjbknaaDoorW1
import Derived.Deep.AppendLies
namespace Go.Proofs.YtfpoicdfkjbknaaDoor.W
open Go.RowKit Go.Proofs.YtfpoicdfkjbknaaDoor.P
set_option linter.unusedSimpArgs false
set_option linter.unusedVariables false

/-- all blocks that were there are as they were, but for block b and a row -/
structure Rest (b : Nat) (row : Option Nat) (w w' : World) : Prop where
  os : w'.os = w.os
  tape : w'.tape = w.tape
  output : w'.output = w.output
  size : w.heap.size ≤ w'.heap.size
  block : ∀ k, k < w.heap.size → k ≠ b → some k ≠ row → w'.heap[k]? = w.heap[k]?
theorem Rest.refl (b : Nat) (row : Option Nat) (w : World) : Rest b row w w := ⟨rfl, rfl, rfl, Nat.le_refl _, fun _ _ _ _ => rfl⟩
theorem Rest.trans {b : Nat} {row : Option Nat} {x y z : World} (h : Rest b row x y) (k : Rest b row y z) : Rest b row x z :=
  ⟨k.os.trans h.os, k.tape.trans h.tape, k.output.trans h.output, Nat.le_trans h.size k.size, fun i hi ne nr => (k.block i (Nat.lt_of_lt_of_le hi h.size) ne nr).trans (h.block i hi ne nr)⟩
theorem Rest.later {b : Nat} {row : Option Nat} {x y z : World} (h : Rest b row x y) (k : Below y.heap.size y z) : Rest b row x z :=
  ⟨k.os.trans h.os, k.tape.trans h.tape, k.output.trans h.output, Nat.le_trans h.size k.size, fun i hi ne nr => (k.block i (Nat.lt_of_lt_of_le hi h.size)).trans (h.block i hi ne nr)⟩
theorem Rest.but {b c : Nat} {row : Option Nat} {x y z : World} (h : Rest b row x y) (k : But c y z) (hc : c = b ∨ x.heap.size ≤ c) : Rest b row x z :=
  ⟨k.os.trans h.os, k.tape.trans h.tape, k.output.trans h.output, Nat.le_trans h.size k.size, fun i hi ne nr => (k.block i (Nat.lt_of_lt_of_le hi h.size) (by omega)).trans (h.block i hi ne nr)⟩
theorem Rest.grown {b : Nat} {row : Option Nat} {x y z : World} (h : Rest b row x y) (k : y.grownBy z row) : Rest b row x z :=
  ⟨k.os.trans h.os, k.tape.trans h.tape, k.output.trans h.output, Nat.le_trans h.size k.size, fun i hi ne nr => (k.block i (Nat.lt_of_lt_of_le hi h.size) nr).trans (h.block i hi ne nr)⟩

/-- the look's three cells: the program, how many looks are left, where ways ended -/
def limg (code v : Value) (k : Wk) : Nat → Value := fun j => if j = 0 then code else if j = 1 then .int .i64 (4000 - k.looks) else v
def brow : List P.B → List Value
  | [] => []
  | x :: l => .int .i64 x.lo :: .int .i64 x.hi :: brow l
theorem brow_snoc (l : List P.B) (x : P.B) : brow (l ++ [x]) = brow l ++ [.int .i64 x.lo, .int .i64 x.hi] := by
  induction l with
  | nil => rfl
  | cons y l ih => simp [brow, ih]
theorem brow_length (l : List P.B) : (brow l).length = l.length * 2 := by
  induction l with
  | nil => rfl
  | cons y l ih => simp [brow, ih]; omega
theorem brow_at : ∀ (l : List P.B) (j : Nat) (x : P.B), l[j]? = some x → (brow l)[j * 2]? = some (.int .i64 x.lo) ∧ (brow l)[j * 2 + 1]? = some (.int .i64 x.hi)
  | [], j, x, h => by simp at h
  | y :: l, 0, x, h => by simp at h; subst h; exact ⟨rfl, rfl⟩
  | y :: l, j + 1, x, h => by
    have := brow_at l j x (by simpa using h)
    refine ⟨?_, ?_⟩
    · rw [show (j + 1) * 2 = j * 2 + 1 + 1 by omega]; simpa [brow] using this.1
    · rw [show (j + 1) * 2 + 1 = (j * 2 + 1) + 1 + 1 by omega]; simpa [brow] using this.2
structure LookIs (w : World) (b : Nat) (code v : Value) (k : Wk) : Prop where
  img : P.Img w b 3 (limg code v k)
  own : w.ownsRow (b + 1) 49 2 v k.ends.length (brow k.ends)
theorem LookIs.lt {w : World} {b : Nat} {code v : Value} {k : Wk} (h : LookIs w b code v k) : b < w.heap.size := h.img.lt (by omega)
theorem LookIs.row {w : World} {b : Nat} {code v : Value} {k : Wk} (h : LookIs w b code v k) {g : Nat} (hg : v.ownBlock = some g) : b < g ∧ g < w.heap.size := h.own.lt g hg
theorem owns_keep {w w' : World} {base : Nat} {e : TypeId} {size : Nat} {v : Value} {n : Nat} {xs : List Value} (h : w.ownsRow base e size v n xs) (hb : ∀ g, v.ownBlock = some g → w'.heap[g]? = w.heap[g]?) : w'.ownsRow base e size v n xs := by
  refine ⟨h.1, ?_⟩
  rcases h.2 with hn | ⟨g, cap, cur, rfl, hb', hgg, rest⟩
  · exact .inl hn
  · exact .inr ⟨g, cap, cur, rfl, hb', (hb g rfl).trans hgg, rest⟩
theorem LookIs.keep {w w' : World} {b : Nat} {code v : Value} {k : Wk} (h : LookIs w b code v k) (hb : w'.heap[b]? = w.heap[b]?) (hr : ∀ g, v.ownBlock = some g → w'.heap[g]? = w.heap[g]?) : LookIs w' b code v k :=
  ⟨h.img.of_block hb, owns_keep h.own hr⟩
theorem LookIs.later {w w' : World} {b : Nat} {code v : Value} {k : Wk} (h : LookIs w b code v k) (hb : Below w.heap.size w w') : LookIs w' b code v k :=
  h.keep (hb.block b h.lt) fun g hg => hb.block g (h.row hg).2
theorem LookIs.but {w w' : World} {b c : Nat} {code v : Value} {k : Wk} (h : LookIs w b code v k) (hb : But c w w') (hc : b ≠ c) (hr : ∀ g, v.ownBlock = some g → g ≠ c) : LookIs w' b code v k :=
  h.keep (hb.block b h.lt hc) fun g hg => hb.block g (h.row hg).2 (hr g hg)
/-- the count of looks, and the ends, in the look's block are turned -/
theorem LookIs.looked {w : World} {b : Nat} {code v : Value} {k : Wk} (h : LookIs w b code v k) (l : Int) : LookIs (w.setCell ⟨b, 1, none⟩ (.int .i64 (4000 - l))) b code v ⟨l, k.ends⟩ :=
  ⟨(h.img.set (j := 1) (by omega) _).congr fun j hj => by
      rcases j with _ | _ | _ | j
      · rfl
      · rfl
      · rfl
      · omega, owns_keep h.own fun g hg => Below.heap_setCell _ _ _ _ (by have := (h.row hg).1; simp only; omega)⟩
theorem LookIs.ended {w : World} {b : Nat} {code v v' : Value} {k : Wk} {E : List P.B} (h : P.Img w b 3 (limg code v k)) (ho : w.ownsRow (b + 1) 49 2 v' E.length (brow E)) : LookIs (w.setCell ⟨b, 2, none⟩ v') b code v' ⟨k.looks, E⟩ :=
  ⟨(h.set (j := 2) (by omega) _).congr fun j hj => by
      rcases j with _ | _ | _ | j
      · rfl
      · rfl
      · rfl
      · omega, owns_keep ho fun g hg => Below.heap_setCell _ _ _ _ (by have := (ho.lt g hg).1; simp only; omega)⟩
/-- what a walk leaves -/
structure Led (b : Nat) (code v : Value) (w : World) (v' : Value) (k' : Wk) (w' : World) : Prop where
  look : LookIs w' b code v' k'
  rest : Rest b v.ownBlock w w'
  row : ∀ g, v'.ownBlock = some g → v.ownBlock = some g ∨ w.heap.size ≤ g
theorem Led.refl {b : Nat} {code v : Value} {w : World} {k : Wk} (h : LookIs w b code v k) : Led b code v w v k w := ⟨h, Rest.refl _ _ _, fun g hg => .inl hg⟩
theorem Led.later {b : Nat} {code v v' : Value} {w x y : World} {k : Wk} (h : Led b code v w v' k x) (hb : Below x.heap.size x y) : Led b code v w v' k y := ⟨h.look.later hb, h.rest.later hb, h.row⟩
theorem Led.but {b c : Nat} {code v v' : Value} {w x y : World} {k : Wk} (h : Led b code v w v' k x) (hb : But c x y) (hc : w.heap.size ≤ c) (hbc : b ≠ c) (hr : v'.ownBlock ≠ some c) : Led b code v w v' k y :=
  ⟨h.look.but hb hbc fun g hg e => hr (e ▸ hg), h.rest.but hb (.inr hc), h.row⟩
theorem Led.trans {b : Nat} {code v v1 v2 : Value} {w x y : World} {k1 k2 : Wk} (h : Led b code v w v1 k1 x) (h2 : Led b code v1 x v2 k2 y) : Led b code v w v2 k2 y := by
  refine ⟨h2.look, ⟨h2.rest.os.trans h.rest.os, h2.rest.tape.trans h.rest.tape, h2.rest.output.trans h.rest.output, Nat.le_trans h.rest.size h2.rest.size, fun i hi ne nr => ?_⟩, fun g hg => ?_⟩
  · refine (h2.rest.block i (Nat.lt_of_lt_of_le hi h.rest.size) ne fun e => ?_).trans (h.rest.block i hi ne nr)
    rcases h.row i e.symm with h1 | h1
    · exact nr h1.symm
    · omega
  · rcases h2.row g hg with h1 | h1
    · exact h.row g h1
    · exact .inr (Nat.le_trans h.rest.size h1)
theorem Led.img {b c n : Nat} {code v v' : Value} {w w' : World} {k : Wk} {I : Nat → Value} (h : Led b code v w v' k w') (hI : P.Img w c n I) (hn : 0 < n) (hc : c ≠ b) (hr : v.ownBlock ≠ some c) : P.Img w' c n I :=
  hI.of_block (h.rest.block c (hI.lt hn) hc (Ne.symm hr))
theorem Led.cell {b : Nat} {code v v' : Value} {w w' : World} {k : Wk} (h : Led b code v w v' k w') {p : Addr} {u : Value} (e : w.cell? p = some u) (hc : p.block ≠ b) (hr : v.ownBlock ≠ some p.block) : w'.cell? p = some u :=
  (World.cell?_of_block (w := w) (h.rest.block p.block (World.block_lt_of_cell? w p e) hc (Ne.symm hr))).trans e
theorem Led.below {b : Nat} {code v v' : Value} {w w' : World} {k k0 : Wk} (h : Led b code v w v' k w') (h0 : LookIs w b code v k0) : Below b w w' :=
  ⟨h.rest.os, h.rest.tape, h.rest.output, h.rest.size, fun i hi => h.rest.block i (by have := h0.lt; omega) (by omega) (fun e => by have := (h0.row e.symm).1; omega)⟩
theorem Led.size {b : Nat} {code v v' : Value} {w w' : World} {k : Wk} (h : Led b code v w v' k w') : w.heap.size ≤ w'.heap.size := h.rest.size
/-- a block that is newer than the first world is not the row's, nor the look's -/
theorem row_ne {v v' : Value} {w : World} {c : Nat} (h : ∀ g, v'.ownBlock = some g → v.ownBlock = some g ∨ w.heap.size ≤ g) (hl : ∀ g, v.ownBlock = some g → g < w.heap.size) (hc : c < w.heap.size) (hv : v.ownBlock ≠ some c) : v'.ownBlock ≠ some c := fun e => by
  rcases h c e with h1 | h1
  · exact hv h1
  · omega
def LPost (b : Nat) (code v : Value) (w : World) (r : VR) (e : Ending) (w' : World) : Prop := ∃ v', e = .returned (.agg #[.int .i64 r.1.1, .int .i64 r.1.2]) ∧ Led b code v w v' r.2 w'
theorem AllAt.under {w w' : World} {b : Nat} (h : AllAt w) (hb : Below b w w') (hl : 4 < b) : AllAt w' := ⟨(hb.cell (p := ⟨4, 0, none⟩) hl).trans h.1, (hb.cell (p := ⟨4, 1, none⟩) hl).trans h.2⟩
theorem Cells.under {w w' : World} {a : Addr} {S : Nat → Step} {n b : Nat} (h : Cells w a S n) (hb : Below b w w') (hl : a.block < b) : Cells w' a S n := by
  have hbl : ∀ i, (a.add i).block = a.block := fun i => by unfold Addr.add; split <;> rfl
  intro i hi
  obtain ⟨e0, e1, e2, e3, e4, e5⟩ := h i hi
  have l : (a.add (i * 6)).block < b := by rw [hbl]; exact hl
  exact ⟨(hb.cell l).trans e0, (hb.cell (p := ⟨_, _, none⟩) l).trans e1, (hb.cell (p := ⟨_, _, none⟩) l).trans e2, (hb.cell (p := ⟨_, _, none⟩) l).trans e3, (hb.cell (p := ⟨_, _, none⟩) l).trans e4, (hb.cell (p := ⟨_, _, none⟩) l).trans e5⟩
/-- the contract of goes with so much fuel -/
def GoesC (S : Nat → Step) (a : Addr) (n cap b f : Nat) : Prop := ∀ (s : VS) (pc : Nat) (k : Wk) (v : Value) (w : World), VSOk s → pc < n → n ≤ pc + f → 0 ≤ k.looks → k.looks ≤ 4000 → (k.ends.length : Int) ≤ k.looks → (∀ e ∈ k.ends, e.Ok) → AllAt w → Cells w a S n →
  LookIs w b (.slice (some a) n cap) v k →
  Calls Tryd.prog 33 #[.pointer (some ⟨b, 0, none⟩), .agg (scells rwcell s).toArray, .int .i64 pc] w (LPost b (.slice (some a) n cap) v w (vwalk S f s pc k))
/-- a register's three cells, as the reference has them -/
theorem rrcells {w : World} {b : Nat} {s : VS} (hI : P.Img w b 81 (simg rwcell s)) {k : Nat} (hk : k < 11) : w.cell? ⟨b, k * 3, none⟩ = some (.int .u8 (letter (s.regs k).kind)) ∧ w.cell? ⟨b, k * 3 + 1, none⟩ = some (.int .i64 (s.regs k).b.lo) ∧ w.cell? ⟨b, k * 3 + 2, none⟩ = some (.int .i64 (s.regs k).b.hi) :=
  ⟨(hI.cell (k * 3) (by omega)).trans (congrArg some ((simg_reg hk (by omega : 0 < 3) (by omega)).trans (rwcell_0 _))), (hI.cell (k * 3 + 1) (by omega)).trans (congrArg some ((simg_reg hk (by omega : 1 < 3) (by omega)).trans (rwcell_1 _))), (hI.cell (k * 3 + 2) (by omega)).trans (congrArg some ((simg_reg hk (by omega : 2 < 3) (by omega)).trans (rwcell_2 _)))⟩
theorem rwcells {w : World} {b : Nat} {v : Wh} (hI : P.Img w b 3 (rwcell v)) : w.cell? ⟨b, 0, none⟩ = some (.int .u8 (letter v.kind)) ∧ w.cell? ⟨b, 1, none⟩ = some (.int .i64 v.b.lo) ∧ w.cell? ⟨b, 2, none⟩ = some (.int .i64 v.b.hi) :=
  ⟨hI.cell 0 (by omega), hI.cell 1 (by omega), hI.cell 2 (by omega)⟩
theorem rsize (s : VS) : (Tryd.prog.info? 102).map (·.size) = some (scells rwcell s).length := by rw [scells_length]; kernel_rfl
theorem rsize' (s : VS) : (Tryd.prog.info? 102).map (·.size) = some (scells rwcell s).toArray.size := by rw [List.size_toArray, scells_length]; kernel_rfl
theorem rone (s : VS) : (scells rwcell s).toArray.all (·.oneCell') = true := by
  refine all_oneCell_toArray fun v hv => ?_
  unfold scells at hv
  obtain ⟨j, -, rfl⟩ := List.mem_map.1 hv
  unfold simg rwcell
  split <;> split <;> rfl
theorem mind_put {w : World} {b : Nat} {s : VS} (ht : w.there b 0 (scells rwcell s).toArray.size) : P.Img (w.setCells b 0 (scells rwcell s).toArray.toList) b 81 (simg rwcell s) := by
  have ht' : w.there b 0 (scells rwcell s).length := by simpa using ht
  intro j hj
  have h := World.rangeAt_setCells_same w b 0 (scells rwcell s) ht' j (simg rwcell s j) (scells_at hj)
  rw [Nat.zero_add] at h
  refine ⟨by simpa using h, ?_⟩
  rw [World.frozen?_setCells]
  have := (ht' j (by rw [scells_length]; exact hj)).2
  rwa [Nat.zero_add] at this
theorem vwalk_ends {S : Nat → Step} : ∀ (f : Nat) (s : VS) (pc : Int) (w : Wk), (w.ends.length : Int) ≤ w.looks → ((vwalk S f s pc w).2.ends.length : Int) ≤ (vwalk S f s pc w).2.looks
  | 0, s, pc, w, h => h
  | f + 1, s, pc, w, h => by
    rw [vwalk_succ]
    split
    · show (w.ends.length : Int) ≤ w.looks + 1; omega
    · have way : ∀ (o : Option (VS × Int)) (w : Wk), (w.ends.length : Int) ≤ w.looks → ((wayOf (vwalk S f) o w).2.ends.length : Int) ≤ (wayOf (vwalk S f) o w).2.looks := fun o w h => by
        cases o with
        | none => exact h
        | some x => exact vwalk_ends f _ _ _ h
      cases s.step (S pc.toNat) pc with
      | done b => show ((w.ends ++ [b]).length : Int) ≤ w.looks + 1; simp; omega
      | err e => show (w.ends.length : Int) ≤ w.looks + 1; omega
      | go x y =>
        show ((thenOf (wayOf (vwalk S f) x ⟨w.looks + 1, w.ends⟩) (wayOf (vwalk S f) y)).2.ends.length : Int) ≤ (thenOf (wayOf (vwalk S f) x ⟨w.looks + 1, w.ends⟩) (wayOf (vwalk S f) y)).2.looks
        have h1 := way x ⟨w.looks + 1, w.ends⟩ (by show (w.ends.length : Int) ≤ w.looks + 1; omega)
        unfold thenOf
        split
        · exact h1
        · exact way y _ h1
end Go.Proofs.YtfpoicdfkjbknaaDoor.W
