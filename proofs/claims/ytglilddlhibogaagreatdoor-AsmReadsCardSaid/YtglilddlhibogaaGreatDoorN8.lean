/- asm.Read by contract: the program that a text is, or what is wrong, and where. Conditions: the text is short; the tables that reading reads lie in the world; errors.errorType holds the type error's handle. -/
import Derived.Test.YtglilddlhibogaaGreatDoorN3
import Derived.Test.YtglilddlhibogaaGreatDoorN4
import Derived.Test.YtglilddlhibogaaGreatDoorN6
import Derived.Test.YtglilddlhibogaaGreatDoorN7
import Derived.Test.YtglilddlhibogaaGreatDoorStepRow
import Derived.RangeFuncBox
import Derived.Maps.AppendAt
namespace Go.Proofs.YtglilddlhibogaaGreatDoor.W
open Go.RowKit Go.Shelf Go.Proofs.YtglilddlhibogaaGreatDoor.P
set_option linter.unusedSimpArgs false
set_option linter.unusedVariables false

attribute [local go_sem] Oper.semAt_some
def ErrT (w : World) : Prop := w.cell? ⟨5, 0, none⟩ = some (.iface 317 (.agg #[.pointer (some ⟨14, 26, none⟩)]))
theorem ErrT.later {w w' : World} (h : ErrT w) (hb : Below w.heap.size w w') : ErrT w' := (hb.cell (block_lt_of_cell h)).trans h
/-- what reading a text gives -/
def ReadIs (r : (Int × Int) × List Step) (w : World) (e : Ending) (w' : World) : Prop :=
 ∃ v er, e = .returned (.tuple #[v, er]) ∧ ErrIs w' er r.1.1 r.1.2 ∧ w'.ownsRow w.heap.size 110 6 v r.2.length (rowOf r.2) ∧ Below w.heap.size w w'
theorem idx_semi : IdxSemi := by
 intro s w hs
 have K := Tryz.strings_Index_one (bs s) 59 w
 rw [bs_data, ← index_byte] at K
 exact K.mono fun e w' ⟨he, hw⟩ => ⟨he, hw.symm⟩
theorem infoStep : ((Tryz.prog).info? 110).map (fun i => (i.zero, i.size, i.bytes)) = some (some (.agg #[.int .i64 0, .int .i64 0, .int .i64 0, .bool false, .int .i64 0, .int .i64 0]), 6, 48) := by kernel_rfl
/-- between two segments: the steps read so far; the results are as they were at first -/
def RInv (w : World) (pre : List (List UInt8)) (W : World) : Prop :=
 (∃ L v, rgo [] pre = .ok L ∧ Boxed W (w.heap.size + 1 + 1) 33 v ∧ W.ownsRow (w.heap.size + 1 + 1 + 1 + 1 + 1 + 1) 110 6 v L.length (rowOf L) ∧ Boxed W w.heap.size 33 (.slice none 0 0) ∧ Boxed W (w.heap.size + 1) 26 .nilIface ∧ w.heap.size + 1 + 1 + 1 + 1 + 1 + 1 ≤ W.heap.size) ∧ Below w.heap.size w W
/-- a segment is no step -/
def RBad (w : World) (pre : List (List UInt8)) (W : World) : Prop :=
 (∃ (k b : Nat), rgo [] pre = .error k ∧ Boxed W w.heap.size 33 (.slice none 0 0) ∧ Boxed W (w.heap.size + 1) 26 (.iface 119 (.pointer (some ⟨b, 0, none⟩))) ∧ W.cell? ⟨b, 0, none⟩ = some (.int .i64 3) ∧ W.cell? ⟨b, 1, none⟩ = some (.int .i64 k)) ∧ Below w.heap.size w W
theorem boxed_later {W W' : World} {B : Nat} {t : TypeId} {v : Value} (h : Boxed W B t v) {n : Nat} (hb : Below n W W') (hn : B < n) : Boxed W' B t v := (hb.block B hn).trans h
theorem row_kept {W W' : World} {base : Nat} {e : TypeId} {size : Nat} {v : Value} {n : Nat} {xs : List Value} {row : Option Nat} (hr : W.ownsRow base e size v n xs) (hg : W.grownBy W' row) (hrow : ∀ r, row = some r → ∃ o : Obj, W.heap[r]? = some o ∧ o.isCells = false) : W'.ownsRow base e size v n xs := by
 refine hr.kept hg ?_
 rcases hr.2 with ⟨rfl, _⟩ | ⟨g, cap, cur, rfl, _, hgb, _⟩
 ·exact .inl rfl
 ·refine .inr fun e' => ?_
  obtain ⟨o, ho, hc⟩ := hrow g (by simpa [Value.ownBlock] using e'.symm)
  rw [hgb] at ho; cases ho; cases hc
theorem RInv.own (w : World) {B : Nat} (hB : w.heap.size + 1 + 1 + 1 < B) : OwnFrom B (RInv w) := by
 rintro pre W W' row ⟨⟨L, v, h1, h2, h3, h4, h5, h6⟩, hb⟩ hg hr
 have hne : ∀ b, b < B → some b ≠ row := fun b hb' e => by have := (hr b e.symm).1; omega
 exact ⟨⟨L, v, h1, h2.kept hg (hne _ (by omega)), row_kept h3 hg (fun r e => (hr r e).2), h4.kept hg (hne _ (by omega)), h5.kept hg (hne _ (by omega)), Nat.le_trans h6 hg.size⟩, hb.grown hg hb.size (fun k e => by have := (hr k e).1; omega)⟩
theorem RBad.own (w : World) {B : Nat} (hB : w.heap.size + 1 + 1 + 1 < B) : OwnFrom B (RBad w) := by
 rintro pre W W' row ⟨⟨k, b, h1, h2, h3, h4, h5⟩, hb⟩ hg hr
 have hne : ∀ b, b < B → some b ≠ row := fun b hb' e => by have := (hr b e.symm).1; omega
 exact ⟨⟨k, b, h1, h2.kept hg (hne _ (by omega)), h3.kept hg (hne _ (by omega)), cell_kept h4 hg (fun r e => (hr r e).2), cell_kept h5 hg (fun r e => (hr r e).2)⟩, hb.grown hg hb.size (fun k e => by have := (hr k e).1; omega)⟩
theorem RInv.put (w : World) (pre : List (List UInt8)) (W : World) (u : Value) (h : RInv w pre W) : RInv w pre (W.setCell ⟨w.heap.size + 1 + 1 + 1, 0, none⟩ u) := by
 obtain ⟨⟨L, v, h1, h2, h3, h4, h5, h6⟩, hb⟩ := h
 exact ⟨⟨L, v, h1, h2.other (by omega) u, h3.kept (grownBy_setCell' W _ u) (.inr fun e => by have := (h3.lt _ e).1; omega), h4.other (by omega) u, h5.other (by omega) u, by simpa using h6⟩, hb.setCell (p := ⟨w.heap.size + 1 + 1 + 1, 0, none⟩) (by simp; omega) u⟩
theorem own_form {w : World} {base : Nat} {e : TypeId} {size : Nat} {v : Value} {n : Nat} {xs : List Value} (h : w.ownsRow base e size v n xs) : ∃ og cap, v = .slice og n cap := by
 rcases h.2 with ⟨rfl, rfl⟩ | ⟨g, cap, _, rfl, _⟩
 ·exact ⟨_, _, rfl⟩
 ·exact ⟨_, _, rfl⟩
theorem NCheck_row (L : List Step) (v : Value) {base : Nat} (W : World) (hr : W.ownsRow base 110 6 v L.length (rowOf L)) (hg : ErrT W) : Calls Tryz.prog 40 #[v] W fun e W' => ∃ er, e = .returned er ∧ ErrIs W' er (check (nth L) L.length).1 (check (nth L) L.length).2 ∧ Below W.heap.size W W' := by
 have hcap : ∃ og cap, v = .slice og L.length cap ∧ L.length ≤ cap ∧ (1 ≤ L.length → ∃ a, og = some a ∧ Cells W a (nth L) L.length) := by
  have hrc := hr
  rcases hr.2 with ⟨rfl, h0⟩ | ⟨g, cap, cur, rfl, _, _, hc, _⟩
  ·exact ⟨none, 0, by rw [h0], by omega, fun h => by omega⟩
  ·exact ⟨_, cap, rfl, hc, fun _ => ⟨_, rfl, row_cells rfl hrc⟩⟩
 obtain ⟨og, cap, rfl, hle, hc⟩ := hcap
 unfold check
 by_cases h : L.length < 1 ∨ 200 < L.length
 ·rw [if_pos h]
  exact (Check_limit og L.length cap h hle W).mono fun e w' ⟨he, hw⟩ => ⟨_, he, .inr (.inl ⟨by decide, rfl, rfl⟩), hw ▸ Below.refl _ _⟩
 ·rw [if_neg h]
  obtain ⟨a, rfl, hcs⟩ := hc (by omega)
  exact Check_some a L.length cap (nth L) (by omega) (by omega) hle W hcs hg
theorem rerr_nil {w : World} {v : Value} {p : Int} (h : ErrIs w v 0 p) : v = .nilIface := by
 rcases h with ⟨h, _⟩ | ⟨h, _⟩ | ⟨h, _⟩
 ·exact h
 ·exact absurd rfl h
 ·exact absurd rfl h
theorem rerr_iface {w : World} {v : Value} {n p : Int} (h : ErrIs w v n p) (hn : n ≠ 0) : ∃ t x, v = .iface t x := by
 rcases h with ⟨_, h, _⟩ | ⟨_, h, _⟩ | ⟨_, b, h, _⟩
 ·exact absurd h hn
 ·exact ⟨_, _, h⟩
 ·exact ⟨_, _, h⟩
theorem err_kept {W W' : World} {v : Value} {n p : Int} {row : Option Nat} (h : ErrIs W v n p) (hg : W.grownBy W' row) (hr : ∀ r, row = some r → ∃ o : Obj, W.heap[r]? = some o ∧ o.isCells = false) : ErrIs W' v n p := by
 rcases h with h | h | ⟨h0, b, h1, h2, h3⟩
 ·exact .inl h
 ·exact .inr (.inl h)
 ·exact .inr (.inr ⟨h0, b, h1, cell_kept h2 hg hr, cell_kept h3 hg hr⟩)
theorem read_ret (w V : World) (D : Nat) (r : (Int × Int) × List Step) (v0 er : Value) (tm : Array Value) (h2 : tm.getD 2 undef = .pointer (some ⟨w.heap.size, 0, none⟩)) (h3 : tm.getD 3 undef = .pointer (some ⟨w.heap.size + 1, 0, none⟩)) (b0 : Boxed V w.heap.size 33 v0) (b1 : Boxed V (w.heap.size + 1) 26 er)
  (hK : V.heap[D]? = some (.deferred (some []))) (hD : w.heap.size ≤ D) (he : ErrIs V er r.1.1 r.1.2) (hrow : V.ownsRow w.heap.size 110 6 v0 r.2.length (rowOf r.2)) (hb : Below w.heap.size w V) :
  bodyPostM Fence.wide 6 Tryz.prog Tryz.f15 (ReadIs r w) Exit.ret { tmps := tm, defers := [{ target := Target.collected D, args := #[] }] } V := by
 have hrw : ∀ r, some D = some r → ∃ o : Obj, V.heap[r]? = some o ∧ o.isCells = false := fun r e => by cases e; exact ⟨_, hK, rfl⟩
 have hgr := grownBy_putObj' V D (.deferred none)
 have n0 : some w.heap.size ≠ some D := fun e => by cases e; rw [show V.heap[w.heap.size]? = _ from b0] at hK; cases hK
 have n1 : some (w.heap.size + 1) ≠ some D := fun e => by cases e; rw [show V.heap[w.heap.size + 1]? = _ from b1] at hK; cases hK
 have c0 := (b0.kept hgr n0).cell
 have c1 := (b1.kept hgr n1).cell
 have hV := belowK_b (w := w) (Nat.le_refl _) V D _ (.deferred none) hD hK rfl rfl
 have e1 := err_kept he hgr hrw
 have e2 := row_kept hrow hgr hrw
 refine ⟨by simp, .inl ⟨_, _, rfl, run_takeDeferred hK, ?_⟩⟩
 refine ⟨.tuple #[v0, er], ?_, v0, er, rfl, e1, e2, hb.trans hV⟩
 have h2' : tm[2]?.getD undef = .pointer (some ⟨w.heap.size, 0, none⟩) := by simpa using h2
 have h3' : tm[3]?.getD undef = .pointer (some ⟨w.heap.size + 1, 0, none⟩) := by simpa using h3
 simp [results, Tryz.results15, go_sem, c0, c1, h2', h3']
theorem rread_ok {s : List UInt8} {L : List Step} (hL : rgo [] (cut1 59 s) = .ok L) (h : (check (nth L) L.length).1 = 0) : rread s = ((0, -1), L) := by
 unfold rread; rw [hL]; simp only; rw [if_neg (by simp [h])]
theorem rread_chk {s : List UInt8} {L : List Step} (hL : rgo [] (cut1 59 s) = .ok L) (h : ¬ (check (nth L) L.length).1 = 0) : rread s = (check (nth L) L.length, []) := by
 unfold rread; rw [hL]; simp only; rw [if_pos h]
theorem rread_err {s : List UInt8} {k : Nat} (hL : rgo [] (cut1 59 s) = .error k) : rread s = ((3, (k : Int)), []) := by
 unfold rread; rw [hL]
theorem row_later {w w' : World} {base : Nat} {e : TypeId} {size : Nat} {v : Value} {n : Nat} {xs : List Value} (h : w.ownsRow base e size v n xs) (hb : Below w.heap.size w w') : w'.ownsRow base e size v n xs := by
 have hl := h.lt
 refine ⟨h.1, ?_⟩
 rcases h.2 with hn | ⟨g, cap, cur, rfl, hb', hgg, rest⟩
 ·exact .inl hn
 ·exact .inr ⟨g, cap, cur, rfl, hb', (hb.block g (hl g rfl).2).trans hgg, rest⟩
theorem def_set {W : World} {D : Nat} {o : Obj} (h : W.heap[D]? = some o) (b : Nat) (u : Value) (hb : D ≠ b) : (W.setCell ⟨b, 0, none⟩ u).heap[D]? = some o := (Below.heap_setCell W ⟨b, 0, none⟩ u D hb).trans h
theorem err_set {W : World} {v : Value} {n p : Int} {B : Nat} {t : TypeId} {u0 : Value} (h : ErrIs W v n p) (hb : Boxed W B t u0) (hu : ∀ m, u0 ≠ .int .i64 m) (u : Value) : ErrIs (W.setCell ⟨B, 0, none⟩ u) v n p := by
 rcases h with h | h | ⟨h0, b, h1, h2, h3⟩
 ·exact .inl h
 ·exact .inr (.inl h)
 ·have hbg : B ≠ b := by
   rintro rfl
   have := hb.cell
   rw [h2] at this
   injection this with this
   exact hu _ this.symm
  have ho : ∀ k, (⟨B, 0, none⟩ : Addr) ≠ ⟨b, k, none⟩ := fun k e => hbg (congrArg Addr.block e)
  exact .inr (.inr ⟨h0, b, h1, by rw [World.cell?_setCell_other _ _ _ _ (ho 0)]; exact h2, by rw [World.cell?_setCell_other _ _ _ _ (ho 1)]; exact h3⟩)
theorem keeps_below {W V : World} (h : Below W.heap.size W V) : KeepsOthers W V := ⟨h.size, fun k o hk _ => (h.block k (Array.getElem?_eq_some_iff.1 hk).1).trans hk⟩
theorem bad_end {w W V : World} {pre : List (List UInt8)} {k m : Nat} (hk : rgo [] pre = .error k) (hb : Below W.heap.size W V) (b0 : Boxed W w.heap.size 33 (.slice none 0 0)) (b1 : Boxed W (w.heap.size + 1) 26 .nilIface) (hB : Below w.heap.size w W) :
  KeepsFrom m W (((V.setCell ⟨w.heap.size, 0, none⟩ (.slice none 0 0)).setCell ⟨w.heap.size + 1, 0, none⟩ (.iface 119 (.pointer (some ⟨V.heap.size, 0, none⟩)))).alloc (.cells #[.int .i64 3, .int .i64 k] 120)).drew ∧
  RBad w pre (((V.setCell ⟨w.heap.size, 0, none⟩ (.slice none 0 0)).setCell ⟨w.heap.size + 1, 0, none⟩ (.iface 119 (.pointer (some ⟨V.heap.size, 0, none⟩)))).alloc (.cells #[.int .i64 3, .int .i64 k] 120)).drew := by
 have c0 := boxed_later b0 hb b0.lt
 have c1 := boxed_later b1 hb b1.lt
 obtain ⟨U, hU⟩ : ∃ U, (V.setCell ⟨w.heap.size, 0, none⟩ (.slice none 0 0)).setCell ⟨w.heap.size + 1, 0, none⟩ (.iface 119 (.pointer (some ⟨V.heap.size, 0, none⟩))) = U := ⟨_, rfl⟩
 have hUs : U.heap.size = V.heap.size := by rw [← hU]; simp
 have d0 : Boxed U w.heap.size 33 (.slice none 0 0) := by rw [← hU]; exact (c0.set _).other (by omega) _
 have d1 : Boxed U (w.heap.size + 1) 26 (.iface 119 (.pointer (some ⟨V.heap.size, 0, none⟩))) := by rw [← hU]; exact (c1.other (by omega) _).set _
 have hK : KeepsOthers W U := by rw [← hU]; exact ((keeps_below hb).trans (KeepsOthers.setCell _ _ _)).trans (KeepsOthers.setCell _ _ _)
 have hb2 : Below w.heap.size w U := by rw [← hU]; exact ((hB.trans (hb.mono hB.size)).setCell (p := ⟨w.heap.size, 0, none⟩) (Nat.le_refl _) _).setCell (p := ⟨w.heap.size + 1, 0, none⟩) (by simp) _
 rw [hU]
 have hn := World.alloc_heap_new U (.cells #[.int .i64 3, .int .i64 (k : Int)] 120)
 rw [hUs] at hn
 refine ⟨((hK.trans (KeepsOthers.alloc _ _)).trans (KeepsOthers.drew _)).from _, ⟨k, V.heap.size, hk, d0.alloc _, d1.alloc _, ?_, ?_⟩, (hb2.alloc hb2.size _).drew⟩
 ·rw [cell_drew_own]; simp [World.cell?, hn]
 ·rw [cell_drew_own]; simp [World.cell?, hn]
theorem row_base {w : World} {base base' : Nat} {e : TypeId} {size : Nat} {v : Value} {n : Nat} {xs : List Value} (h : w.ownsRow base e size v n xs) (hb : base' ≤ base) : w.ownsRow base' e size v n xs := by
 refine ⟨h.1, ?_⟩
 rcases h.2 with hn | ⟨g, cap, cur, rfl, hb', rest⟩
 ·exact .inl hn
 ·exact .inr ⟨g, cap, cur, rfl, Nat.le_trans hb hb', rest⟩
theorem c6_new (W : World) (t : Step) (ty : TypeId) : ∀ j u, (c6 t)[j]? = some u → (W.alloc (.cells #[.int .i64 t.code, .int .i64 t.dst, .int .i64 t.src, .bool t.reg, .int .i64 t.off, .int .i64 t.num] ty)).cell? ((⟨W.heap.size, 0, none⟩ : Addr).add j) = some u := by
 intro j u hj
 have hadd : (⟨W.heap.size, 0, none⟩ : Addr).add j = ⟨W.heap.size, j, none⟩ := by unfold Addr.add; split <;> simp_all
 have hn := World.alloc_heap_new W (.cells #[.int .i64 t.code, .int .i64 t.dst, .int .i64 t.src, .bool t.reg, .int .i64 t.off, .int .i64 t.num] ty)
 rw [hadd]
 simp only [World.cell?, hn]
 simpa [c6] using hj
theorem c6_one (t : Step) : ∀ u ∈ c6 t, u.oneCell' = true := by
 intro u hu
 simp only [c6, List.mem_cons, List.not_mem_nil, or_false] at hu
 rcases hu with rfl | rfl | rfl | rfl | rfl | rfl <;> rfl
theorem good_end {w W W2 w3 : World} {pre : List (List UInt8)} {L : List Step} {t : Step} {og : Option Addr} {cap g' cap' m : Nat} {O O' : Obj} (hpre : rgo [] pre = .ok (L ++ [t])) (hb2 : Below W.heap.size W W2) (bl : Boxed W (w.heap.size + 1 + 1) 33 (.slice og L.length cap)) (b0 : Boxed W w.heap.size 33 (.slice none 0 0)) (b1 : Boxed W (w.heap.size + 1) 26 .nilIface)
  (h6 : w.heap.size + 1 + 1 + 1 + 1 + 1 + 1 ≤ W.heap.size) (hrow : W.ownsRow (w.heap.size + 1 + 1 + 1 + 1 + 1 + 1) 110 6 (.slice og L.length cap) L.length (rowOf L)) (hB : Below w.heap.size w W)
  (hown : w3.ownsRow (w.heap.size + 1 + 1 + 1 + 1 + 1 + 1) 110 6 (.slice (some ⟨g', 0, none⟩) (L.length + 1) cap') (L.length + 1) (rowOf L ++ c6 t)) (hgrow : ((W2.alloc O).alloc O').grownBy w3 (Value.slice og L.length cap).ownBlock) :
  Boxed w3 (w.heap.size + 1 + 1) 33 (.slice og L.length cap) ∧ KeepsFrom m W (w3.setCell ⟨w.heap.size + 1 + 1, 0, none⟩ (.slice (some ⟨g', 0, none⟩) (L.length + 1) cap')) ∧ SeqKp (w.heap.size + 1 + 1 + 1) W (w3.setCell ⟨w.heap.size + 1 + 1, 0, none⟩ (.slice (some ⟨g', 0, none⟩) (L.length + 1) cap')) ∧
  RInv w pre (w3.setCell ⟨w.heap.size + 1 + 1, 0, none⟩ (.slice (some ⟨g', 0, none⟩) (L.length + 1) cap')) := by
 have rb := row_later hrow hb2
 have h2 := hb2.size
 obtain ⟨a1, a2, a3, a4, a5⟩ := Boxed.appended ((boxed_later bl hb2 bl.lt).alloc O) (by decide) (row_base (rb.alloc O) (show w.heap.size ≤ _ by omega)) (by simp; omega) (show w.heap.size ≤ w.heap.size + 1 + 1 by omega) (row_base hown (show w.heap.size ≤ _ by omega)) hgrow
 have hrt := (rb.alloc O).alloc O'
 have c0 := (((boxed_later b0 hb2 b0.lt).alloc O).alloc O').kept hgrow ((((boxed_later b0 hb2 b0.lt).alloc O).alloc O').not_row (by decide) hrt)
 have c1 := (((boxed_later b1 hb2 b1.lt).alloc O).alloc O').kept hgrow ((((boxed_later b1 hb2 b1.lt).alloc O).alloc O').not_row (by decide) hrt)
 have hsz : W2.heap.size + 1 + 1 ≤ w3.heap.size := by have := hgrow.size; simpa using this
 refine ⟨a1, (((keeps_below hb2).trans (KeepsOthers.alloc _ O)).trans a4).from _, ?_, ⟨L ++ [t], _, hpre, a2, ?_, c0.other (by omega) _, c1.other (by omega) _, by simp; omega⟩, ?_⟩
 ·intro k hk1 hk2
  rw [Below.heap_setCell _ _ _ _ (show k ≠ w.heap.size + 1 + 1 by omega)]
  have e1 : ((W2.alloc O).alloc O').heap[k]? = W2.heap[k]? := by rw [Below.heap_alloc _ _ _ (by simp; omega), Below.heap_alloc _ _ _ (by omega)]
  have hne : some k ≠ (Value.slice og L.length cap).ownBlock := fun e => by have := (hrow.lt _ e.symm).1; omega
  rw [hgrow.block k (by simp; omega) hne, e1]
  exact hb2.block k (by omega)
 ·rw [rowOf_snoc, List.length_append]
  exact hown.kept (grownBy_setCell' w3 _ _) (.inr fun e => by have := (hown.lt _ e).1; omega)
 ·exact (hB.trans (hb2.mono hB.size)).trans (((Below.refl _ _).alloc (by have := hB.size; omega) O).trans a5)
def readTmps (s x : List UInt8) (n : Nat) : Array Value := #[.string (bs s), undef, .pointer (some ⟨n, 0, none⟩), .pointer (some ⟨n + 1, 0, none⟩), .pointer (some ⟨n + 1 + 1, 0, none⟩), .string (bs x), undef, undef, undef, undef, .string (bs s), seqFn (n + 1 + 1 + 1), .string (bs x),
 undef, undef, undef, undef, undef, undef, undef, undef, undef, undef, undef, undef, undef, undef, undef, undef, undef, undef, undef, undef, undef, undef, undef, undef, undef, undef, undef, undef, undef, undef, undef, undef]
set_option maxRecDepth 100000 in
set_option maxHeartbeats 8000000 in
theorem NRead_any (s : List UInt8) (hs : s.length ≤ 100000) (w : World) (h : RTabs w) (hg : ErrT w) : Calls Tryz.prog 15 #[.string (bs s)] w (ReadIs (rread s) w) := by
 have H := Lib.hid h
 have HG := Lib.hid hg
 clear h hg
 obtain ⟨i0, hi, hz0, hz1, hz2⟩ := info_parts infoStep
 refine (callsIn_wide (n := 6)).1 ?_
 refine callsIn_of_wp_marks Tryz.func15 rfl trivial ?_ rfl
 simp only [Tryz.ntmps15, List.size_toArray, List.length_cons, List.length_nil, Nat.reduceAdd, Nat.reduceSub, Array.replicate_succ, Array.replicate_zero, List.push_toArray, List.append_toArray, List.nil_append, List.cons_append]
 gi_wp2_with (refine ⟨trivial, ?_⟩; gi_at_call 36; refine (callsIn_wide.2 (NSplitSeq_any s _)).mono ?_; rintro e w1 ⟨rfl, hv1, hb1, hz, hs1⟩)
 obtain ⟨wa, hwa⟩ : ∃ wa, ((w.alloc (.cells #[.slice none 0 0] 33)).alloc (.cells #[.nilIface] 26)).alloc (.cells #[.slice none 0 0] 33) = wa := ⟨_, rfl⟩
 have e0 : wa.heap.size = w.heap.size + 1 + 1 + 1 := by rw [← hwa]; simp
 have b0 : Boxed wa w.heap.size 33 (.slice none 0 0) := by rw [← hwa]; exact ((Boxed.new _ _ _).alloc _).alloc _
 have b1 : Boxed wa (w.heap.size + 1) 26 .nilIface := by
  rw [← hwa]; have := (Boxed.new (w.alloc (.cells #[.slice none 0 0] 33)) 26 .nilIface).alloc (.cells #[.slice none 0 0] 33); rwa [World.size_alloc] at this
 have b2 : Boxed wa (w.heap.size + 1 + 1) 33 (.slice none 0 0) := by
  rw [← hwa]; have := Boxed.new ((w.alloc (.cells #[.slice none 0 0] 33)).alloc (.cells #[.nilIface] 26)) 33 (.slice none 0 0); simpa using this
 have hBa : Below w.heap.size w wa := by rw [← hwa]; exact (((Below.refl _ w).alloc (Nat.le_refl _) _).alloc (by simp) _).alloc (by simp; omega) _
 rw [hwa] at hb1 hv1 hz hs1
 rw [e0] at hb1 hv1 hz hs1
 have hB1 : Below w.heap.size w w1 := hBa.trans (hb1.mono (by omega))
 have I0 : RInv w [] w1 := ⟨⟨[], _, rfl, boxed_later b2 hb1 (by omega), World.ownsRow_nil _ _ _ _, boxed_later b0 hb1 (by omega), boxed_later b1 hb1 (by omega), by omega⟩, hB1⟩
 have HI0 := Lib.hid I0
 have HSEQ := Lib.hid (NSeq_iter idx_semi s hs (w.heap.size + 1 + 1 + 1) 5 (by omega) w1 (by omega) hv1)
 clear hv1 hs1 b0 b1 b2 hb1 I0 hwa
 refine wpIn_range_but (b := w.heap.size + 1 + 1 + 1) rfl (by omega) (gf := 94) (lb := #[.pointer (some ⟨w.heap.size + 1 + 1 + 1 + 1, 0, none⟩), .pointer (some ⟨w.heap.size + 1 + 1 + 1, 0, none⟩), .pointer (some ⟨w.heap.size + 1 + 1 + 1 + 1 + 1, 0, none⟩)]) rfl trivial (enters_of Tryz.func94 (by kernel_rfl) rfl)
  (by omega) HSEQ.out (fun h k => SeqKp.trans h k) (fun W l o hl => SeqKp.put W l o (by omega)) rfl (RInv w) (RBad w) (RInv.own w (by omega)) (RBad.own w (by omega)) (fun pre W u h => RInv.put w pre W u h) HI0.out
  (fun x => { tmps := readTmps s x w.heap.size, defers := [] }) ?assign ?body ?done ?stop
 case assign =>
  intro l x W K hK
  gi_wp2
  exact hK
 case body =>
  rintro l pre x W ⟨⟨L, v, hL, hbl, hrow, hr0, hr1, h6⟩, hB⟩ hpre
  have hxm : x ∈ cut1 59 s := by obtain ⟨r, hr⟩ := hpre; rw [← hr]; simp
  have hx : x.length ≤ 100000 := Nat.le_trans (cut1_part 59 s x hxm) hs
  have hLl : L.length ≤ 100001 := by
   have h1 := rgo_len pre [] L hL
   have h2 := hpre.length_le
   have h3 := cut1_length 59 s
   have h4 := List.count_le_length (a := (59 : UInt8)) (l := s)
   simp at h1 h2; omega
  obtain ⟨og, cap, rfl⟩ := own_form hrow
  have hfl : fieldsB x = (wds x).map bs := fields_words x
  have HFL := Lib.hid hfl
  have HROW := Lib.hid hrow
  have HL := Lib.hid hL
  have HR0 := Lib.hid hr0
  have HR1 := Lib.hid hr1
  have HBL := Lib.hid hbl
  have HPRE := Lib.hid hpre
  have HXM := Lib.hid hxm
  clear hrow hL hr0 hr1 hbl hpre hfl hxm
  simp only [readTmps]
  by_cases hw : wds x = []
  ·have h0 : (fieldsB x).length = 0 := by rw [HFL.out, hw]; rfl
   have HW := Lib.hid hw
   clear hw
   gi_wp2_with (refine ⟨trivial, ?_⟩; gi_at_call 37; refine (CallsIn.inRound l (callsIn_wide.2 (NFields_any x hx W))).mono ?_; rintro e W1 ⟨A, rfl, hA, hown, hb1⟩; rw [h0]; have k0 := (boxed_later HR0.out hb1 HR0.out.lt).cell; have k1 := (boxed_later HR1.out hb1 HR1.out.lt).cell; have k2 := (boxed_later HBL.out hb1 HBL.out.lt).cell; have r0 := (boxed_later HR0.out hb1 HR0.out.lt).frozen; have r1 := (boxed_later HR1.out hb1 HR1.out.lt).frozen; have z0 := (boxed_later HR0.out hb1 HR0.out.lt).lt; have z1 := (boxed_later HR1.out hb1 HR1.out.lt).lt; have z2 := (boxed_later HBL.out hb1 HBL.out.lt).lt; have HB1 := Lib.hid hb1; clear hb1 hown)
   have hmx : Tryz.prog.follows .mixedOrders = true := by kernel_rfl
   gi_region_with_o (fail)
   all_goals gi_wp2
   all_goals exact bad_end (rgo_bad HL.out (by rw [HW.out]; rfl)) HB1.out HR0.out HR1.out hB
  ·obtain ⟨y, r, hyr⟩ : ∃ y r, wds x = y :: r := by
    cases h : wds x with
    | nil => exact absurd h hw
    | cons y r => exact ⟨y, r, rfl⟩
   obtain ⟨m, hm⟩ : ∃ m, r.length + 1 = m := ⟨_, rfl⟩
   have h0 : (fieldsB x).length = m := by rw [HFL.out, hyr, ← hm]; simp
   have hm0 : ((m : Int) == 0) = false := beq_eq_false_iff_ne.2 (by omega)
   have hone := fun (A : Nat) (W1 : World) (hT : RTabs W1) hc => NOne_any NIdx_any A m y r (by have := wds_length x; rw [hyr] at this; simp at this; omega) (fun z hz => Nat.le_trans (wds_part (s := x) (by rw [hyr]; exact hz)) hx) W1 hT hc
   rw [hm] at hone
   have hcs : ∀ (A : Nat) (W1 : World), W1.ownsRow W.heap.size 9 1 (.slice (some ⟨A, 0, none⟩) m m) m ((fieldsB x).map Value.string) → ∀ (j : Nat) z, (y :: r)[j]? = some z → W1.cell? ⟨A, j, none⟩ = some (.string (bs z)) := by
    intro A W1 ho j z hz
    have := ho.cells (g := A) rfl j (.string (bs z)) (by rw [HFL.out, hyr, List.map_map, List.getElem?_map, hz]; rfl)
    have hadd : (⟨A, 0, none⟩ : Addr).add j = ⟨A, j, none⟩ := by unfold Addr.add; split <;> simp_all
    rwa [hadd] at this
   have HONE := Lib.hid hone
   have HCS := Lib.hid hcs
   have HYR := Lib.hid hyr
   have HH0 := Lib.hid h0
   clear hone hcs hyr h0 hm hw
   cases hr : rone (y :: r) with
   | none =>
    have HR := Lib.hid hr
    clear hr
    gi_wp2_with (first
     | (refine ⟨trivial, ?_⟩; gi_at_call 37; refine (CallsIn.inRound l (callsIn_wide.2 (NFields_any x hx W))).mono ?_; rintro e W1 ⟨A, rfl, hA, hown, hb1⟩; rw [HH0.out] at *; have HB1 := Lib.hid hb1; have HOWN := Lib.hid hown; clear hb1 hown)
     | (refine ⟨trivial, ?_⟩; gi_at_call 39; refine (CallsIn.inRound l (callsIn_wide.2 (HONE.out _ _ (H.out.later (hB.trans (HB1.out.mono hB.size))) (HCS.out _ _ HOWN.out)))).mono ?_; rintro e W2 ⟨⟨t, b, rfl, hin, hb⟩, hb2⟩; (obtain rfl : b = false := by (cases b; rfl; rw [HR.out, if_pos rfl] at hb; cases hb)); have HB2 := Lib.hid (HB1.out.trans (hb2.mono HB1.out.size)); have k0 := (boxed_later HR0.out HB2.out HR0.out.lt).cell; have k1 := (boxed_later HR1.out HB2.out HR1.out.lt).cell; have k2 := (boxed_later HBL.out HB2.out HBL.out.lt).cell; have r0 := (boxed_later HR0.out HB2.out HR0.out.lt).frozen; have r1 := (boxed_later HR1.out HB2.out HR1.out.lt).frozen; have z0 := (boxed_later HR0.out HB2.out HR0.out.lt).lt; have z1 := (boxed_later HR1.out HB2.out HR1.out.lt).lt; have z2 := (boxed_later HBL.out HB2.out HBL.out.lt).lt; clear hb2 hb hin))
    generalize hW3 : World.alloc W2 _ = W3
    have hb3 : Below W2.heap.size W2 W3 := by rw [← hW3]; exact (Below.refl _ _).alloc (Nat.le_refl _) _
    have HB3 := Lib.hid (HB2.out.trans (hb3.mono HB2.out.size))
    clear k0 k1 k2 r0 r1 z0 z1 z2 hb3 hW3
    have k0 := (boxed_later HR0.out HB3.out HR0.out.lt).cell
    have k1 := (boxed_later HR1.out HB3.out HR1.out.lt).cell
    have k2 := (boxed_later HBL.out HB3.out HBL.out.lt).cell
    have r0 := (boxed_later HR0.out HB3.out HR0.out.lt).frozen
    have r1 := (boxed_later HR1.out HB3.out HR1.out.lt).frozen
    have z0 := (boxed_later HR0.out HB3.out HR0.out.lt).lt
    have z1 := (boxed_later HR1.out HB3.out HR1.out.lt).lt
    have z2 := (boxed_later HBL.out HB3.out HBL.out.lt).lt
    have hmx : Tryz.prog.follows .mixedOrders = true := by kernel_rfl
    gi_region_with_o (fail)
    all_goals gi_wp2
    all_goals exact bad_end (rgo_bad HL.out (by rw [HYR.out]; exact HR.out)) HB3.out HR0.out HR1.out hB
   | some t =>
    have HR := Lib.hid hr
    clear hr
    gi_wp2_with (first
     | (refine ⟨trivial, ?_⟩; gi_at_call 37; refine (CallsIn.inRound l (callsIn_wide.2 (NFields_any x hx W))).mono ?_; rintro e W1 ⟨A, rfl, hA, hown, hb1⟩; rw [HH0.out] at *; have HB1 := Lib.hid hb1; have HOWN := Lib.hid hown; clear hb1 hown)
     | (refine ⟨trivial, ?_⟩; gi_at_call 39; refine (CallsIn.inRound l (callsIn_wide.2 (HONE.out _ _ (H.out.later (hB.trans (HB1.out.mono hB.size))) (HCS.out _ _ HOWN.out)))).mono ?_; rintro e W2 ⟨⟨t', b, rfl, hin, hb⟩, hb2⟩; (obtain ⟨rfl, rfl⟩ : b = true ∧ t = t' := by (cases b; (rw [HR.out] at hb; cases hb); rw [HR.out, if_pos rfl] at hb; injection hb with hb; exact ⟨rfl, hb⟩)); have HB2 := Lib.hid (HB1.out.trans (hb2.mono HB1.out.size)); have k0 := (boxed_later HR0.out HB2.out HR0.out.lt).cell; have k1 := (boxed_later HR1.out HB2.out HR1.out.lt).cell; have k2 := (boxed_later HBL.out HB2.out HBL.out.lt).cell; have r0 := (boxed_later HR0.out HB2.out HR0.out.lt).frozen; have r1 := (boxed_later HR1.out HB2.out HR1.out.lt).frozen; have z0 := (boxed_later HR0.out HB2.out HR0.out.lt).lt; have z1 := (boxed_later HR1.out HB2.out HR1.out.lt).lt; have z2 := (boxed_later HBL.out HB2.out HBL.out.lt).lt; clear hb2 hb hin)
     | (gi_at_builtin; refine wpListIn_append_own _ rfl _ _ 33 rfl (w.heap.size + 1 + 1 + 1 + 1 + 1 + 1) 110 i0 (.agg #[.int .i64 0, .int .i64 0, .int .i64 0, .bool false, .int .i64 0, .int .i64 0]) 6 48 Tryz.underlying33 hi hz0 hz1 hz2 rfl (by decide) _ _ _ rfl (((row_later HROW.out HB2.out).alloc _).alloc _) ⟨W2.heap.size + 1, 0, none⟩ 1 1 (c6 t) rfl rfl (by have hh := c6_new (W2.alloc (.cells #[.int .i64 t.code, .int .i64 t.dst, .int .i64 t.src, .bool t.reg, .int .i64 t.off, .int .i64 t.num] 110)) t 110; rw [World.size_alloc] at hh; exact hh) (c6_one t) (by unfold maxLen; omega) (by omega) (by have h1 := HB2.out.size; simp; omega) ?_; intro v' w3 hown' hgrow _; obtain ⟨g', cap', rfl⟩ := ownsRow_succ hown'; obtain ⟨q1, q2, q3, q4⟩ := good_end (m := w1.heap.size) (rgo_ok HL.out (by rw [HYR.out]; exact HR.out)) HB2.out HBL.out HR0.out HR1.out h6 HROW.out hB hown' hgrow; have u0 := q1.cell; have u1 := q1.frozen; have Q2 := Lib.hid q2; have Q3 := Lib.hid q3; have Q4 := Lib.hid q4; clear q1 q2 q3 q4 hown' hgrow))
    exact ⟨Q2.out, Q3.out, Q4.out⟩
 case done =>
  rintro D W hD ⟨⟨L, v, hL, hbl, hrow6, hr0, hr1, _⟩, hB⟩ hK
  have hrow := row_base hrow6 (show w.heap.size ≤ _ by omega)
  have HCK := Lib.hid (NCheck_row L v W hrow (HG.out.later hB))
  obtain ⟨og, cap, rfl⟩ := own_form hrow
  have c2 := hbl.cell
  have HROW := Lib.hid hrow
  have HL := Lib.hid hL
  have HR0 := Lib.hid hr0
  have HR1 := Lib.hid hr1
  have HK := Lib.hid hK
  have HBL := Lib.hid hbl
  have HDK := Lib.hid hD
  clear hrow hrow6 hL hr0 hr1 hK hbl
  by_cases hc0 : (check (nth L) L.length).1 = 0
  ·have HC0 := Lib.hid hc0
   clear hc0
   gi_wp2_with (refine ⟨trivial, ?_⟩; gi_at_call 40; refine (callsIn_wide.2 HCK.out).mono ?_; rintro e W2 ⟨er, rfl, her, hb2⟩; (obtain rfl : er = .nilIface := rerr_nil (by rw [← HC0.out]; exact her)); have k0 := (boxed_later HR0.out hb2 HR0.out.lt).cell; have k1 := (boxed_later HR1.out hb2 HR1.out.lt).cell; have k2 := (boxed_later HBL.out hb2 HBL.out.lt).cell; have r0 := (boxed_later HR0.out hb2 HR0.out.lt).frozen; have r1 := (boxed_later HR1.out hb2 HR1.out.lt).frozen; have HB2 := Lib.hid hb2; clear hb2 her)
   refine read_ret w _ D _ (.slice og L.length cap) .nilIface _ rfl rfl ((((boxed_later HR0.out HB2.out HR0.out.lt).set _)).other (by omega) _) (((boxed_later HR1.out HB2.out HR1.out.lt).other (by omega) _).set _) ?_ (by omega) ?_ ?_ ?_
   ·exact def_set (def_set ((HB2.out.block D (Array.getElem?_eq_some_iff.1 HK.out).1).trans HK.out) _ _ (by omega)) _ _ (by omega)
   ·rw [rread_ok HL.out HC0.out]; exact .inl ⟨rfl, rfl, rfl⟩
   ·rw [rread_ok HL.out HC0.out]
    have q0 := boxed_later HR0.out HB2.out HR0.out.lt
    have q1 := boxed_later HR1.out HB2.out HR1.out.lt
    have qr := row_later HROW.out HB2.out
    have qr1 := qr.kept (grownBy_setCell' W2 w.heap.size (.slice og L.length cap)) (.inr (q0.not_row (by decide) qr).symm)
    exact qr1.kept (grownBy_setCell' _ (w.heap.size + 1) .nilIface) (.inr ((q1.other (by omega) _).not_row (by decide) qr1).symm)
   ·exact ((hB.trans (HB2.out.mono hB.size)).setCell (p := ⟨w.heap.size, 0, none⟩) (Nat.le_refl _) _).setCell (p := ⟨w.heap.size + 1, 0, none⟩) (by simp) _
  ·have HC0 := Lib.hid hc0
   clear hc0
   gi_wp2_with (refine ⟨trivial, ?_⟩; gi_at_call 40; refine (callsIn_wide.2 HCK.out).mono ?_; rintro e W2 ⟨er, rfl, her, hb2⟩; obtain ⟨et, ex, rfl⟩ := rerr_iface her HC0.out; have k0 := (boxed_later HR0.out hb2 HR0.out.lt).cell; have k1 := (boxed_later HR1.out hb2 HR1.out.lt).cell; have k2 := (boxed_later HBL.out hb2 HBL.out.lt).cell; have r0 := (boxed_later HR0.out hb2 HR0.out.lt).frozen; have r1 := (boxed_later HR1.out hb2 HR1.out.lt).frozen; have HB2 := Lib.hid hb2; have HER := Lib.hid her; clear hb2 her)
   refine read_ret w _ D _ (.slice none 0 0) (.iface et ex) _ rfl rfl ((((boxed_later HR0.out HB2.out HR0.out.lt).set _)).other (by omega) _) (((boxed_later HR1.out HB2.out HR1.out.lt).other (by omega) _).set _) ?_ (by omega) ?_ ?_ ?_
   ·exact def_set (def_set ((HB2.out.block D (Array.getElem?_eq_some_iff.1 HK.out).1).trans HK.out) _ _ (by omega)) _ _ (by omega)
   ·rw [rread_chk HL.out HC0.out]
    exact err_set (err_set HER.out (boxed_later HR0.out HB2.out HR0.out.lt) (fun m h => by cases h) _) ((boxed_later HR1.out HB2.out HR1.out.lt).other (by omega) _) (fun m h => by cases h) _
   ·rw [rread_chk HL.out HC0.out]; exact World.ownsRow_nil _ _ _ _
   ·exact ((hB.trans (HB2.out.mono hB.size)).setCell (p := ⟨w.heap.size, 0, none⟩) (Nat.le_refl _) _).setCell (p := ⟨w.heap.size + 1, 0, none⟩) (by simp) _
 case stop =>
  rintro D pre W hD hpre ⟨⟨k, b, h1, h2, h3, h4, h5⟩, hb⟩ hK
  gi_wp2
  refine read_ret w _ D _ (.slice none 0 0) _ _ rfl rfl h2 h3 hK (by omega) ?_ ?_ hb
  ·rw [rread_err (rgo_err hpre h1)]; exact .inr (.inr ⟨show (3 : Int) ≠ 0 by decide, b, rfl, h4, h5⟩)
  ·rw [rread_err (rgo_err hpre h1)]; exact World.ownsRow_nil _ _ _ _
end Go.Proofs.YtglilddlhibogaaGreatDoor.W
