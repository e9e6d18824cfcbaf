/- Helpers for the walks of verify and of its reference: a step's block, whole blocks. No conditions. -/
import Derived.Test.YtfpoicdfkjbknaaDoorWalkCheck
import Derived.Test.YtfpoicdfkjbknaaDoorPureVerWalk
import Derived.Test.YtfpoicdfkjbknaaDoorVerImg
namespace Go.Proofs.YtfpoicdfkjbknaaDoor.W
open Go.RowKit Go.Proofs.YtfpoicdfkjbknaaDoor.P
set_option linter.unusedSimpArgs false
set_option linter.unusedVariables false

/-- a step's six cells -/
def timg (t : Step) : Nat → Value := fun j => if j = 0 then .int .i64 t.code else if j = 1 then .int .i64 t.dst else if j = 2 then .int .i64 t.src else if j = 3 then .bool t.reg else if j = 4 then .int .i64 t.off else .int .i64 t.num
theorem tcells {w : World} {b : Nat} {t : Step} (hI : P.Img w b 6 (timg t)) : w.cell? ⟨b, 0, none⟩ = some (.int .i64 t.code) ∧ w.cell? ⟨b, 1, none⟩ = some (.int .i64 t.dst) ∧ w.cell? ⟨b, 2, none⟩ = some (.int .i64 t.src) ∧ w.cell? ⟨b, 3, none⟩ = some (.bool t.reg) ∧ w.cell? ⟨b, 4, none⟩ = some (.int .i64 t.off) ∧ w.cell? ⟨b, 5, none⟩ = some (.int .i64 t.num) :=
  ⟨hI.cell 0 (by omega), hI.cell 1 (by omega), hI.cell 2 (by omega), hI.cell 3 (by omega), hI.cell 4 (by omega), hI.cell 5 (by omega)⟩
theorem Img.zero3 {w : World} {b : Nat} {t : TypeId} (h : w.heap[b]? = some (.cells #[.int .i64 0, .int .i64 0, .int .i64 0] t (0, 0))) : P.Img w b 3 (fun _ => .int .i64 0) := by
  refine Img.of_cells h (by rfl) fun j hj => ?_
  rcases j with _ | _ | _ | j
  · rfl
  · rfl
  · rfl
  · omega
theorem Cells.but {w w' : World} {a : Addr} {S : Nat → Step} {n b : Nat} (h : Cells w a S n) (hb : But b w w') (hne : a.block ≠ b) : Cells w' a S n := by
  have hbl : ∀ i, (a.add i).block = a.block := fun i => by unfold Addr.add; split <;> rfl
  intro i hi
  obtain ⟨e0, e1, e2, e3, e4, e5⟩ := h i hi
  exact ⟨hb.cell e0 (by rw [hbl]; exact hne), hb.cell e1 (by simp only [hbl]; exact hne), hb.cell e2 (by simp only [hbl]; exact hne), hb.cell e3 (by simp only [hbl]; exact hne), hb.cell e4 (by simp only [hbl]; exact hne), hb.cell e5 (by simp only [hbl]; exact hne)⟩
theorem vthere_new {w : World} {c : Array Value} {t : TypeId} {n : Nat} (h : n = c.size) : (w.alloc (.cells c t (0, 0))).there w.heap.size 0 n := by
  subst h
  have I : P.Img (w.alloc (.cells c t (0, 0))) w.heap.size c.size (fun j => c.getD j undef) := Img.of_cells (heap_alloc_new w _) rfl fun j hj => by simp [hj]
  exact fun j hj => ⟨by rw [Nat.zero_add, I.cell j hj]; rfl, by rw [Nat.zero_add]; exact I.free j hj⟩
theorem but_new {b u : Nat} {w x y : World} (h : But b w x) (k : But u x y) (hu : w.heap.size ≤ u) : But b w y :=
  ⟨k.os.trans h.os, k.tape.trans h.tape, k.output.trans h.output, Nat.le_trans h.size k.size, fun i hi ne => (k.block i (Nat.lt_of_lt_of_le hi h.size) (by omega)).trans (h.block i hi ne)⟩
theorem vl_load {P : Program} {ops : Array Oper} {rest : List Oper} {op : Oper} {a : Act} {w : World} {Q : Exit → Act → World → Prop} (hw : Region.wanted op (yielded ops a.tmps) = true) (ty : TypeId) (x : Operand) (ho : op.op = .load ty x)
    (b o : Nat) (hx : a.eval x = .pointer (some ⟨b, o, none⟩)) (cs : List Value) (d : TypeDesc) (hc : w.rangeAt b o cs) (hu : P.underlying ty = some d) (hd : d.isRow = true) (hi : (P.info? ty).map (·.size) = some cs.length)
    (h : wpList P ops Q rest (a.put op.dst (.agg cs.toArray)) w) : wpList P ops Q (op :: rest) a w :=
  wpList_step fun _ hK => by
    rw [if_pos hw]
    exact wp_load_mid ty x ho b o hx cs d hc hu hd hi (hK _ _ h)
theorem from_zero {S : Nat → Step} {n : Nat} : ∀ (k i : Nat), (from_ S n i k).1 = 0 → from_ S n i k = (0, -1)
  | 0, i, _ => rfl
  | k + 1, i, h => by
    unfold from_ at h ⊢
    by_cases ha : at_ S n i = 0
    · rw [if_neg (by simp [ha])] at h ⊢
      exact from_zero k (i + 1) h
    · rw [if_pos ha] at h
      exact absurd h ha
/-- a program's slice -/
def ProgAt (w : World) (oa : Option Addr) (S : Nat → Step) (n : Nat) : Prop := 0 < n → ∃ a, oa = some a ∧ Cells w a S n
theorem ProgAt.later {w w' : World} {oa : Option Addr} {S : Nat → Step} {n : Nat} (h : ProgAt w oa S n) (hb : Below w.heap.size w w') : ProgAt w' oa S n := fun hn => by
  obtain ⟨a, h1, h2⟩ := h hn
  exact ⟨a, h1, h2.later hb⟩
theorem rsetCells {b B : Nat} (hB : B ≤ b) : ∀ (vs : List Value) (o : Nat) (w x : World), Below B x w → Below B x (w.setCells b o vs)
  | [], _, _, _, h => h
  | v :: r, o, w, x, h => by rw [World.setCells]; exact rsetCells hB r (o + 1) _ _ (h.setCell hB v)
end Go.Proofs.YtfpoicdfkjbknaaDoor.W
