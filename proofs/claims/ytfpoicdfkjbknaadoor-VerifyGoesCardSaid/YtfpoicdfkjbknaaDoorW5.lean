/- The walk of the reference's loads in the frame: a slice made in a loop, then joined. Conditions: the bounds have their ends in order; the variable all holds the least and the greatest number. -/
import Derived.Test.YtfpoicdfkjbknaaDoorW4
import Derived.Test.YtfpoicdfkjbknaaDoorW2
import Derived.Deep.AppendLies
import Derived.Deep.Light
import Derived.BigRegion
import Derived.Deep.CutBlock
import Derived.Deep.DeepCutAuto
import Derived.Deep.LoopGhost
namespace Go.Proofs.YtfpoicdfkjbknaaDoor.W
open Go.RowKit Go.Proofs.YtfpoicdfkjbknaaDoor.P
set_option linter.unusedSimpArgs false
set_option linter.unusedVariables false

theorem rvany_err8 {sl : Nat → Wh} {n k : Nat} {acc : P.B} (h : (sl k).kind = 0) : vany sl (n + 1) k acc = (Wh.nil, 8) := by
 unfold vany; rw [if_pos h]
theorem rvany_err1 {sl : Nat → Wh} {n k : Nat} {acc : P.B} (h : (sl k).kind ≠ 0) (h1 : (sl k).kind ≠ 1) : vany sl (n + 1) k acc = (Wh.nil, 1) := by
 unfold vany; rw [if_neg h, if_pos h1]
theorem rvany_next {sl : Nat → Wh} {n k : Nat} {acc : P.B} (h1 : (sl k).kind = 1) : vany sl (n + 1) k acc = vany sl n (k + 1) (bjoin acc (sl k).b) := by
 conv => lhs; unfold vany
 rw [if_neg (by omega), if_neg (by simp [h1])]
/-- the first thing wrong with n slots from slot k on -/
def rlerr (sl : Nat → Wh) (one : Bool) : Nat → Nat → Int
 | 0, _ => 0
 | n + 1, k => if (sl k).kind = 0 then 8 else if (sl k).kind ≠ 1 ∧ one = false then 1 else rlerr sl one n (k + 1)
def vfold (sl : Nat → Wh) : Nat → Nat → P.B → P.B
 | 0, _, acc => acc
 | n + 1, k, acc => vfold sl n (k + 1) (bjoin acc (sl k).b)
/-- what loads gives in the frame -/
def rlres (sl : Nat → Wh) (m q : Nat) : Wh × Int := if rlerr sl (m == 1) m q ≠ 0 then (Wh.nil, rlerr sl (m == 1) m q) else (⟨(sl q).kind, vfold sl (m - 1) (q + 1) (sl q).b⟩, 0)
theorem vany_of_err {sl : Nat → Wh} : ∀ (n k : Nat) (acc : P.B), rlerr sl false n k ≠ 0 → vany sl n k acc = (Wh.nil, rlerr sl false n k)
 | 0, k, acc, h => absurd rfl h
 | n + 1, k, acc, h => by
  by_cases h0 : (sl k).kind = 0
  ·rw [rvany_err8 h0]; unfold rlerr; rw [if_pos h0]
  by_cases h1 : (sl k).kind = 1
  ·rw [rvany_next h1]
   unfold rlerr at h ⊢
   rw [if_neg h0, if_neg (by simp [h1])] at h ⊢
   exact vany_of_err n (k + 1) _ h
  ·rw [rvany_err1 h0 h1]; unfold rlerr; rw [if_neg h0, if_pos ⟨h1, rfl⟩]
theorem vany_of_ok {sl : Nat → Wh} : ∀ (n k : Nat) (acc : P.B), rlerr sl false n k = 0 → vany sl n k acc = (Wh.num (vfold sl n k acc), 0)
 | 0, k, acc, _ => rfl
 | n + 1, k, acc, h => by
  unfold rlerr at h
  by_cases h0 : (sl k).kind = 0
  ·rw [if_pos h0] at h; exact absurd h (by decide)
  by_cases h1 : (sl k).kind = 1
  ·rw [if_neg h0, if_neg (by simp [h1])] at h
   rw [rvany_next h1, vany_of_ok n (k + 1) _ h]; rfl
  ·rw [if_neg h0, if_pos ⟨h1, rfl⟩] at h; exact absurd h (by decide)
theorem rlres_many {sl : Nat → Wh} {m q : Nat} (hm : 2 ≤ m) : rlres sl m q = vany sl m q (sl q).b := by
 unfold rlres
 rw [show (m == 1) = false by simp; omega]
 by_cases h : rlerr sl false m q = 0
 ·rw [if_neg (by simp [h]), vany_of_ok m q _ h]
  obtain ⟨n, rfl⟩ : ∃ n, m = n + 1 := ⟨m - 1, by omega⟩
  have hk : (sl q).kind = 1 := by
   unfold rlerr at h
   by_cases h0 : (sl q).kind = 0
   ·rw [if_pos h0] at h; exact absurd h (by decide)
   by_cases h1 : (sl q).kind = 1
   ·exact h1
   ·rw [if_neg h0, if_pos ⟨h1, rfl⟩] at h; exact absurd h (by decide)
  rw [hk, Nat.add_sub_cancel]
  conv => rhs; unfold vfold
  rw [bjoin_self]; rfl
 ·rw [if_pos h, vany_of_err m q _ h]
theorem rlres_one {sl : Nat → Wh} {q : Nat} : rlres sl 1 q = if (sl q).kind = 0 then (.nil, 8) else (sl q, 0) := by
 unfold rlres rlerr rlerr vfold
 simp
 by_cases h : (sl q).kind = 0
 ·simp [h]
 ·simp [h]
/-- n slots' cells from slot k on -/
def lrow (sl : Nat → Wh) (q : Nat) : Nat → List Value
 | 0 => []
 | n + 1 => lrow sl q n ++ [rwcell (sl (q + n)) 0, rwcell (sl (q + n)) 1, rwcell (sl (q + n)) 2]
theorem lrow_length (sl : Nat → Wh) (q n : Nat) : (lrow sl q n).length = n * 3 := by
 induction n with
 | zero => rfl
 | succ n ih => unfold lrow; rw [List.length_append, ih]; simp; omega
theorem lrow_at (sl : Nat → Wh) (q : Nat) {n j k : Nat} (hj : j < n) (hk : k < 3) : (lrow sl q n)[j * 3 + k]? = some (rwcell (sl (q + j)) k) := by
 induction n with
 | zero => omega
 | succ n ih =>
  unfold lrow
  by_cases h : j < n
  ·rw [List.getElem?_append_left (by rw [lrow_length]; omega)]; exact ih h
  ·obtain rfl : j = n := by omega
   rw [List.getElem?_append_right (by rw [lrow_length]; omega), lrow_length, show j * 3 + k - j * 3 = k by omega]
   have : k = 0 ∨ k = 1 ∨ k = 2 := by omega
   rcases this with rfl | rfl | rfl <;> rfl
theorem rlerr_next {sl : Nat → Wh} {one : Bool} {n k : Nat} (h0 : (sl k).kind ≠ 0) (h1 : (sl k).kind = 1 ∨ one = true) : rlerr sl one (n + 1) k = rlerr sl one n (k + 1) := by
 conv => lhs; unfold rlerr
 rw [if_neg h0, if_neg]
 rintro ⟨a, b⟩
 rcases h1 with h1 | h1
 ·exact a h1
 ·rw [h1] at b; exact absurd b (by decide)
theorem infoKnown : ((Tryd.prog).info? 100).map (fun i => (i.zero, i.size, i.bytes)) = some (some (.agg #[.int .u8 0, .int .i64 0, .int .i64 0]), 3, 24) := by kernel_rfl

theorem owned_at {w : World} {base : Nat} {e : TypeId} {sl : Nat → Wh} {q m cap g : Nat} (h : w.ownsRow base e 3 (.slice (some ⟨g, 0, none⟩) m cap) m (lrow sl q m)) {j k : Nat} (hj : j < m) (hk : k < 3) : w.cell? ⟨g, j * 3 + k, none⟩ = some (rwcell (sl (q + j)) k) := by
 have := h.cells (g := g) rfl (j * 3 + k) _ (lrow_at sl q hj hk)
 have hadd : (⟨g, 0, none⟩ : Addr).add (j * 3 + k) = ⟨g, j * 3 + k, none⟩ := by unfold Addr.add; split <;> simp_all
 rwa [hadd] at this
theorem rlres_err {sl : Nat → Wh} {m q : Nat} {e : Int} (h : rlerr sl (m == 1) m q = e) (he : e ≠ 0) : rlres sl m q = (Wh.nil, e) := by
 unfold rlres; rw [h, if_pos he]
theorem rlres_ok {sl : Nat → Wh} {m q : Nat} (h : rlerr sl (m == 1) m q = 0) : rlres sl m q = (⟨(sl q).kind, vfold sl (m - 1) (q + 1) (sl q).b⟩, 0) := by
 unfold rlres; rw [h, if_neg (by simp)]
theorem rwimg3 {w : World} {b : Nat} {x : Wh} {ty : TypeId} (h : w.heap[b]? = some (.cells #[.int .u8 (letter x.kind), .int .i64 x.b.lo, .int .i64 x.b.hi] ty (0, 0))) : P.Img w b 3 (rwcell x) := by
 refine Img.of_cells h (by rfl) fun j hj => ?_
 rcases j with _ | _ | _ | j
 ·rfl
 ·rfl
 ·rfl
 ·omega
theorem owned_next {w : World} {base : Nat} {e : TypeId} {sl : Nat → Wh} {q m : Nat} {v : Value} (h : w.ownsRow base e 3 v (m + 1) (lrow sl q m ++ [rwcell (sl (q + m)) 0, rwcell (sl (q + m)) 1, rwcell (sl (q + m)) 2])) : w.ownsRow base e 3 v (m + 1) (lrow sl q (m + 1)) := h

set_option maxRecDepth 100000 in
set_option maxHeartbeats 8000000 in
theorem RLoad_frame (s : VS) (hs : VSOk s) (w : World) (hg : AllAt w) (l h : Int) (ha : P.B.Ok ⟨l, h⟩) (o : Int) (ho : In64 o) (q m : Nat) (L H : Int) (hL : L + 16 = q) (hH : H = L + m - 1) (hm : 1 ≤ m) (hq : q + m ≤ 16) (hke : rfar ⟨3, ⟨l, h⟩⟩ o = (⟨L, H⟩, 0)) :
  Calls Tryd.prog 56 #[.agg (scells rwcell s).toArray, .agg #[.int .u8 102, .int .i64 l, .int .i64 h], .int .i64 o] w fun e w' =>
   e = .returned (.tuple #[.agg #[.int .u8 (letter (rlres s.slots m q).1.kind), .int .i64 (rlres s.slots m q).1.b.lo, .int .i64 (rlres s.slots m q).1.b.hi], .int .i64 (rlres s.slots m q).2]) ∧ Below w.heap.size w w' := by
 have gz := hg.lt
 have HW0 := Lib.hid (Below.refl w.heap.size w)
 obtain ⟨R, hR⟩ : ∃ R, rlres s.slots m q = R := ⟨_, rfl⟩
 rw [hR]
 have HR := Lib.hid hR
 have C := Lib.hid (fun w (hg : AllAt w) => RFar_any ⟨3, ⟨l, h⟩⟩ o ⟨by simp, ha⟩ ho w hg)
 have HK := Lib.hid hke
 have HG := Lib.hid hg
 have HH := Lib.hid hH
 have HL := Lib.hid hL
 have HM := Lib.hid hm
 have l0 : -16 ≤ L := by omega
 have l1 : L < 0 := by omega
 have l2 : L ≤ H := by omega
 have l3 : H < 0 := by omega
 clear hke ha ho hH hL hR hg
 go_enter Tryd.func56, Tryd.ntmps56
 go_wp2_with fail
 refine (C.out _ (HG.out.later (by repeat' (first | with_reducible (first | exact HW0.out | apply bR | apply bD | apply bN | apply bA | apply bS) | (simp; done) | (simp; omega) | omega)))).mono ?_
 rw [HK.out]
 rintro e w1 ⟨rfl, hb⟩
 have IM1 := Lib.hid (((Img.snew (w := w) (c := rwcell) (s := s) (t := 102)).alloc _).alloc _ |>.later hb (by simp; omega))
 obtain ⟨hc1, hf1⟩ := bcell hb
 have hz1 := hb.size
 simp at hz1
 have HW1 := Lib.hid (show Below w.heap.size w w1 from Below.trans (by repeat' (first | with_reducible (first | exact HW0.out | apply bR | apply bD | apply bN | apply bA | apply bS) | (simp; done) | (simp; omega) | omega)) (hb.mono (by first | omega | simp <;> omega)))
 clear hb
 have z10 : w.heap.size < w1.heap.size := by omega
 have z11 : w.heap.size + 1 < w1.heap.size := by omega
 have z12 : w.heap.size + 1 + 1 < w1.heap.size := by omega
 (have k1_w_heap_size_1_0 : w1.cell? ⟨w.heap.size + 1, 0, none⟩ = some (.int .u8 102) := (by rw [hc1 _ _ (by first | omega | simp <;> omega)]; first | (simp [go_sem]; done) | assumption | (simp [go_sem, *]; done)); have r1_w_heap_size_1_0 : w1.frozen? ⟨w.heap.size + 1, 0, none⟩ = false := (by rw [hf1 _ _ (by first | omega | simp <;> omega)]; first | (simp [go_sem]; done) | assumption | (simp [go_sem, *]; done)); have k1_w_heap_size_1_1 : w1.cell? ⟨w.heap.size + 1, 1, none⟩ = some (.int .i64 l) := (by rw [hc1 _ _ (by first | omega | simp <;> omega)]; first | (simp [go_sem]; done) | assumption | (simp [go_sem, *]; done)); have r1_w_heap_size_1_1 : w1.frozen? ⟨w.heap.size + 1, 1, none⟩ = false := (by rw [hf1 _ _ (by first | omega | simp <;> omega)]; first | (simp [go_sem]; done) | assumption | (simp [go_sem, *]; done)); have k1_w_heap_size_1_2 : w1.cell? ⟨w.heap.size + 1, 2, none⟩ = some (.int .i64 h) := (by rw [hc1 _ _ (by first | omega | simp <;> omega)]; first | (simp [go_sem]; done) | assumption | (simp [go_sem, *]; done)); have r1_w_heap_size_1_2 : w1.frozen? ⟨w.heap.size + 1, 2, none⟩ = false := (by rw [hf1 _ _ (by first | omega | simp <;> omega)]; first | (simp [go_sem]; done) | assumption | (simp [go_sem, *]; done)))
 (have k1_w_heap_size_1_1_0 : w1.cell? ⟨w.heap.size + 1 + 1, 0, none⟩ = some (.int .u8 0) := (by rw [hc1 _ _ (by first | omega | simp <;> omega)]; first | (simp [go_sem]; done) | assumption | (simp [go_sem, *]; done)); have r1_w_heap_size_1_1_0 : w1.frozen? ⟨w.heap.size + 1 + 1, 0, none⟩ = false := (by rw [hf1 _ _ (by first | omega | simp <;> omega)]; first | (simp [go_sem]; done) | assumption | (simp [go_sem, *]; done)); have k1_w_heap_size_1_1_1 : w1.cell? ⟨w.heap.size + 1 + 1, 1, none⟩ = some (.int .i64 0) := (by rw [hc1 _ _ (by first | omega | simp <;> omega)]; first | (simp [go_sem]; done) | assumption | (simp [go_sem, *]; done)); have r1_w_heap_size_1_1_1 : w1.frozen? ⟨w.heap.size + 1 + 1, 1, none⟩ = false := (by rw [hf1 _ _ (by first | omega | simp <;> omega)]; first | (simp [go_sem]; done) | assumption | (simp [go_sem, *]; done)); have k1_w_heap_size_1_1_2 : w1.cell? ⟨w.heap.size + 1 + 1, 2, none⟩ = some (.int .i64 0) := (by rw [hc1 _ _ (by first | omega | simp <;> omega)]; first | (simp [go_sem]; done) | assumption | (simp [go_sem, *]; done)); have r1_w_heap_size_1_1_2 : w1.frozen? ⟨w.heap.size + 1 + 1, 2, none⟩ = false := (by rw [hf1 _ _ (by first | omega | simp <;> omega)]; first | (simp [go_sem]; done) | assumption | (simp [go_sem, *]; done)))
 clear hc1 hf1
 go_wp2_with fail
 obtain ⟨i0, hi0, hz0, hz1, hz2⟩ := info_parts infoKnown
 have HINF := Lib.hid hi0
 have HZ0 := Lib.hid hz0; have HZ1 := Lib.hid hz1; have HZ2 := Lib.hid hz2
 clear hi0 hz0 hz1 hz2
 go_loopw [10, 11] (fun lv k wr => ∃ (i : Nat) (kk : Int), i ≤ m ∧ k = .int .i64 kk ∧ kk = L + i ∧ rlerr s.slots (m == 1) m q = rlerr s.slots (m == 1) (m - i) (q + i) ∧ wr.ownsRow (w1.heap.size + 1) 100 3 lv i (lrow s.slots q i) ∧
   (∃ og ocap, lv = .slice og i ocap) ∧ wr.cell? ⟨w1.heap.size, 0, none⟩ = some (.int .i64 L) ∧ wr.cell? ⟨w1.heap.size, 1, none⟩ = some (.int .i64 H) ∧ w1.heap.size < wr.heap.size ∧ Below w1.heap.size w1 wr) (fun _ k _ => (H + 1 - intOf k).toNat)
 case atStart => exact ⟨0, L, by omega, rfl, by simp, by simp, World.ownsRow_nil _ _ _ _, ⟨none, 0, rfl⟩, by simp [go_sem], by simp [go_sem], by simp, (Below.refl _ _).alloc (Nat.le_refl _) _⟩
 case round =>
  obtain ⟨i, kk, him, rfl, hkk, hv, hown, ⟨og, ocap, rfl⟩, hL0, hL1, hzr, hB⟩ := hrel
  have HV := Lib.hid hv
  have HOWN := Lib.hid hown
  have HB := Lib.hid hB
  have HKK := Lib.hid hkk
  have G0 := (hB.cell (p := ⟨w.heap.size + 1 + 1, 0, none⟩) z12).trans k1_w_heap_size_1_1_0
  have G1 := (hB.cell (p := ⟨w.heap.size + 1 + 1, 1, none⟩) z12).trans k1_w_heap_size_1_1_1
  have G2 := (hB.cell (p := ⟨w.heap.size + 1 + 1, 2, none⟩) z12).trans k1_w_heap_size_1_1_2
  have E0 := (hB.frozen (p := ⟨w.heap.size + 1 + 1, 0, none⟩) z12).trans r1_w_heap_size_1_1_0
  have E1 := (hB.frozen (p := ⟨w.heap.size + 1 + 1, 1, none⟩) z12).trans r1_w_heap_size_1_1_1
  have E2 := (hB.frozen (p := ⟨w.heap.size + 1 + 1, 2, none⟩) z12).trans r1_w_heap_size_1_1_2
  have HBW := Lib.hid (HW1.out.trans (hB.mono (by omega)))
  have zr1 : w.heap.size + 1 + 1 < wr.heap.size := by omega
  have zr2 : w.heap.size < wr.heap.size := by omega
  have zr3 : w1.heap.size < wr.heap.size := by omega
  have zn1 : ¬ wr.heap.size = w.heap.size + 1 + 1 := by omega
  have zn2 : ¬ wr.heap.size = w1.heap.size := by omega
  have zn3 : ¬ w1.heap.size = wr.heap.size := by omega
  have zn4 : ¬ w.heap.size + 1 + 1 = wr.heap.size := by omega
  by_cases hlt2 : i < m
  ·obtain ⟨n, hn⟩ : ∃ n, m - i = n + 1 := ⟨m - i - 1, by omega⟩
   obtain ⟨j, hj⟩ : ∃ j, 11 + (q + i) = j := ⟨_, rfl⟩
   have hk : q + i < 16 := by omega
   have IM := IM1.out.later hB (by omega)
   have d0 : wr.cell? ⟨w.heap.size, j * 3, none⟩ = some (.int .u8 (letter (s.slots (q + i)).kind)) := (IM.cell (j * 3) (by omega)).trans (congrArg some ((simg_slot hk (by omega : 0 < 3) (by omega)).trans (rwcell_0 _)))
   have d1 : wr.cell? ⟨w.heap.size, j * 3 + 1, none⟩ = some (.int .i64 (s.slots (q + i)).b.lo) := (IM.cell (j * 3 + 1) (by omega)).trans (congrArg some ((simg_slot hk (by omega : 1 < 3) (by omega)).trans (rwcell_1 _)))
   have d2 : wr.cell? ⟨w.heap.size, j * 3 + 2, none⟩ = some (.int .i64 (s.slots (q + i)).b.hi) := (IM.cell (j * 3 + 2) (by omega)).trans (congrArg some ((simg_slot hk (by omega : 2 < 3) (by omega)).trans (rwcell_2 _)))
   have e16 : 27 + kk = (j : Int) := by have := HL.out; omega
   have k1 : kk ≤ H := by have := HH.out; omega
   have k2 : 0 ≤ 27 + kk := by omega
   have k3 : (j : Int) < 27 := by omega
   have k4 : (0 : Int) ≤ (j : Int) := by omega
   have s16 : IntKind.i64.wrap (27 + kk) = (j : Int) := by rw [e16]; exact IntWalk.i64_in _ (by omega)
   have hst : Hid (m - (i + 1) = n ∧ q + (i + 1) = q + i + 1 ∧ i + 1 ≤ m) := ⟨by omega, by omega, by omega⟩
   rw [hn] at hv
   have HV := Lib.hid hv
   have HX := Lib.hid (show lrow s.slots q i ++ [.int .u8 (letter (s.slots (q + i)).kind), .int .i64 (s.slots (q + i)).b.lo, .int .i64 (s.slots (q + i)).b.hi] = lrow s.slots q (i + 1) from rfl)
   have kx : KOk (s.slots (q + i)).kind := (hs.2 (q + i)).1
   clear hv hB hkk hj hn IM hown
   by_cases h0 : (s.slots (q + i)).kind = 0
   ·have t0 := rbeq_yes ((letter_0 kx).2 h0)
    have hres := HV.out
    rw [show rlerr s.slots (m == 1) (n + 1) (q + i) = 8 from by unfold rlerr; rw [if_pos h0]] at hres
    have hR := HR.out
    rw [rlres_err hres (by decide)] at hR
    subst hR
    clear hres h0 kx
    go_wp2_with fail
    refine bodyPost_ret (v := .tuple #[.agg #[.int .u8 0, .int .i64 0, .int .i64 0], .int .i64 8]) ?_ rfl ⟨rfl, ?_⟩
    ·simp [results, Tryd.results56, go_sem, *]
    ·(repeat' (first | with_reducible exact HBW.out | with_reducible refine Below.setCell ?_ ?_ _ | with_reducible refine Below.alloc ?_ ?_ _ | (simp; done) | (simp; omega) | omega))
   ·have t0 := rbeq_no (fun h => h0 ((letter_0 kx).1 h))
    by_cases h1 : (s.slots (q + i)).kind ≠ 1 ∧ (m == 1) = false
    ·have t1 := rbne_yes (fun h => h1.1 ((letter_1 kx).1 h))
     have t2 := rbne_yes (show L ≠ H by have := HH.out; have h2 := h1.2; simp at h2; omega)
     have hres := HV.out
     rw [show rlerr s.slots (m == 1) (n + 1) (q + i) = 1 from by unfold rlerr; rw [if_neg h0, if_pos h1]] at hres
     have hR := HR.out
     rw [rlres_err hres (by decide)] at hR
     subst hR
     clear hres h0 h1 kx
     go_wp2_with fail
     refine bodyPost_ret (v := .tuple #[.agg #[.int .u8 0, .int .i64 0, .int .i64 0], .int .i64 1]) ?_ rfl ⟨rfl, ?_⟩
     ·simp [results, Tryd.results56, go_sem, *]
     ·(repeat' (first | with_reducible exact HBW.out | with_reducible refine Below.setCell ?_ ?_ _ | with_reducible refine Below.alloc ?_ ?_ _ | (simp; done) | (simp; omega) | omega))
    ·have hn1 : (letter (s.slots (q + i)).kind != 110) = false ∨ ((letter (s.slots (q + i)).kind != 110) = true ∧ (L != H) = false) := by
      by_cases e : (s.slots (q + i)).kind = 1
      ·left; rw [(letter_1 kx).2 e]; rfl
      ·right
       refine ⟨rbne_yes (fun h => e ((letter_1 kx).1 h)), ?_⟩
       have h2 : (m == 1) = true := by
        cases hm1 : (m == 1) with
        | true => rfl
        | false => exact absurd ⟨e, hm1⟩ h1
       have h3 : L = H := by have := HH.out; simp at h2; omega
       rw [h3]; simp
     have hres := HV.out
     rw [rlerr_next h0 (by
      by_cases e : (s.slots (q + i)).kind = 1
      ·exact .inl e
      ·right
       cases hm1 : (m == 1) with
       | true => rfl
       | false => exact absurd ⟨e, hm1⟩ h1)] at hres
     have HRES := Lib.hid hres
     generalize s.slots (q + i) = x at *
     obtain ⟨xk, ⟨xl, xh⟩⟩ := x
     simp only at d0 d1 d2 t0 hn1
     generalize letter xk = xt at *
     clear hres h0 h1 kx
     rcases hn1 with t1 | ⟨t1, t2⟩
     all_goals
      go_upto_region 15 with fail
      generalize hW : World.alloc wr _ = wx
      have b0 : wx.heap[wr.heap.size]? = some (.cells #[.int .u8 xt, .int .i64 xl, .int .i64 xh] 100 (0, 0)) := hW ▸ heap_alloc_new wr _
      have x0 : wx.cell? ⟨wr.heap.size, 0, none⟩ = some (.int .u8 xt) := by rw [← hW]; simp [go_sem]
      have x1 : wx.cell? ⟨wr.heap.size, 1, none⟩ = some (.int .i64 xl) := by rw [← hW]; simp [go_sem]
      have x2 : wx.cell? ⟨wr.heap.size, 2, none⟩ = some (.int .i64 xh) := by rw [← hW]; simp [go_sem]
      have hbx : Below wr.heap.size wr wx := hW ▸ (Below.refl _ _).alloc (Nat.le_refl _) _
      have HOX := Lib.hid (show wx.ownsRow _ _ _ _ _ _ from hW ▸ HOWN.out.alloc _)
      have HBX := Lib.hid (HB.out.trans (hbx.mono (by omega)))
      have bl0 := (hbx.cell (p := ⟨w1.heap.size, 0, none⟩) zr3).trans hL0
      have bl1 := (hbx.cell (p := ⟨w1.heap.size, 1, none⟩) zr3).trans hL1
      have zx : wr.heap.size < wx.heap.size := by rw [← hW]; simp
      clear hW hbx b0 hL0 hL1 d0 d1 d2 G0 G1 G2 E0 E1 E2
      have HT1 := Lib.hid t1
      go_wp2_with (first | (at_builtin; refine wpList_append_lies _ (by rfl) (.tmp 58) (.tmp 60) 167 (by rfl) (w1.heap.size + 1) 100 i0 _ 3 24 Tryd.underlying167 HINF.out HZ0.out HZ1.out HZ2.out rfl (by omega) (.slice og i ocap) i (lrow s.slots q i) (by rfl) (HOX.out.alloc _) ⟨wx.heap.size, 0, none⟩ 1 1 [.int .u8 xt, .int .i64 xl, .int .i64 xh] (by rfl) (by rfl) (World.news_of_block (cs := #[.int .u8 xt, .int .i64 xl, .int .i64 xh]) (t := 100) (fr := (0, 0)) (heap_alloc_new wx _)) (by simp [Value.oneCell']) (by omega) (by unfold maxLen; omega) (by omega) (by simp; omega) (wx.heap.size + 1) (by simp) ?_; intro gg cap w2 hown2 hgrow hat hlt1))
      go_roundw
      case rel =>
       go_light
       have hne : ∀ g, (Value.slice og i ocap).ownBlock = some g → w1.heap.size + 1 ≤ g := fun g hg => (HOX.out.lt g hg).1
       have hnb : some w1.heap.size ≠ (Value.slice og i ocap).ownBlock := fun e => by have := hne _ e.symm; omega
       refine ⟨i + 1, kk + 1, hst.out.2.2, rfl, by have := HKK.out; push_cast; omega, ?_, ?_, ⟨_, _, rfl⟩, ?_, ?_, ?_, ?_⟩
       ·rw [hst.out.1, hst.out.2.1, ← HRES.out]
       ·rw [HX.out] at hown2; exact hown2
       ·exact hgrow.cell ((((Below.refl wx.heap.size wx).alloc (Nat.le_refl _) _).cell (p := ⟨w1.heap.size, 0, none⟩) (show w1.heap.size < wx.heap.size by omega)).trans bl0) hnb
       ·exact hgrow.cell ((((Below.refl wx.heap.size wx).alloc (Nat.le_refl _) _).cell (p := ⟨w1.heap.size, 1, none⟩) (show w1.heap.size < wx.heap.size by omega)).trans bl1) hnb
       ·have := hgrow.size; simp at this; omega
       ·exact Below.grown (HBX.out.alloc (by omega) _) hgrow (by simp; omega) (fun g hg => by have := hne g hg; omega)
      case measure => simp [intOf]; omega
  ·obtain rfl : i = m := by omega
   have k1 : ¬ kk ≤ H := by have := HH.out; omega
   have hres := HV.out
   rw [Nat.sub_self] at hres
   have hR := HR.out
   rw [rlres_ok hres] at hR
   subst hR
   obtain ⟨gb, cap, hf, hgb⟩ := hown.form (by omega)
   have HGB := Lib.hid hgb
   injection hf with hf1 hf2 hf3
   subst hf1
   subst hf3
   have o0 := owned_at hown (show 0 < i by omega) (by omega : 0 < 3)
   have o1 := owned_at hown (show 0 < i by omega) (by omega : 1 < 3)
   have o2 := owned_at hown (show 0 < i by omega) (by omega : 2 < 3)
   simp only [Nat.zero_mul, Nat.zero_add, Nat.add_zero, rwcell_0, rwcell_1, rwcell_2] at o0 o1 o2
   have i0' : (0 : Int) < i := by omega
   clear hv hB hkk hown hres
   have HC1 : ocap = 1 ∨ 1 < ocap := by
    rcases HOWN.out.2 with ⟨h1, h2⟩ | ⟨g', cap', cur, h1, h2, h3, h4, h5, h6⟩
    ·omega
    ·injection h1 with a1 a2 a3; subst a3; omega
   obtain ⟨wo, hwo⟩ : ∃ x, x = wr := ⟨_, rfl⟩
   subst hwo
   rcases HC1 with rfl | hc1
   ·obtain rfl : i = 1 := by
     rcases HOWN.out.2 with ⟨h1, h2⟩ | ⟨g', cap', cur, h1, h2, h3, h4, h5, h6⟩
     ·omega
     ·injection h1 with a1 a2 a3; omega
    go_wp2_with fail
    go_loopw [68] (fun t w2 => ∃ (j : Nat) (acc : P.B), t = .int .i64 j ∧ j ≤ 0 ∧ P.Img w2 wo.heap.size 3 (rwcell ⟨(s.slots q).kind, acc⟩) ∧ vfold s.slots 0 (q + 1) (s.slots q).b = vfold s.slots (0 - j) (q + 1 + j) acc ∧ Below wo.heap.size wo w2) (fun t _ => 0 - (intOf t).toNat)
    case atStart => exact ⟨0, (s.slots q).b, rfl, by omega, rwimg3 (heap_alloc_new wo _), rfl, (Below.refl _ _).alloc (Nat.le_refl _) _⟩
    case round =>
     obtain ⟨w2, hw2⟩ : ∃ x, x = wr := ⟨_, rfl⟩
     subst hw2
     obtain ⟨j, acc, rfl, hj, hIm, hv, hb⟩ := hrel
     have HIM := Lib.hid hIm
     have HV := Lib.hid hv
     have HB2 := Lib.hid hb
     have zgb := HGB.out.2
     have G0' := (hb.cell (p := ⟨w.heap.size + 1 + 1, 0, none⟩) zr1).trans G0
     have E0' := (hb.frozen (p := ⟨w.heap.size + 1 + 1, 0, none⟩) zr1).trans E0
     have G1' := (hb.cell (p := ⟨w.heap.size + 1 + 1, 1, none⟩) zr1).trans G1
     have E1' := (hb.frozen (p := ⟨w.heap.size + 1 + 1, 1, none⟩) zr1).trans E1
     have G2' := (hb.cell (p := ⟨w.heap.size + 1 + 1, 2, none⟩) zr1).trans G2
     have E2' := (hb.frozen (p := ⟨w.heap.size + 1 + 1, 2, none⟩) zr1).trans E2
     have zR : w.heap.size + 1 + 1 < w2.heap.size := by have := hb.size; omega
     clear G0 G1 G2 E0 E1 E2
     have zo : wo.heap.size < w2.heap.size := hIm.lt (by omega)
     have u0 := hIm.cell 0 (by omega); have u1 := hIm.cell 1 (by omega); have u2 := hIm.cell 2 (by omega)
     simp only [rwcell_0, rwcell_1, rwcell_2] at u0 u1 u2
     have v1 := hIm.free 1 (by omega); have v2 := hIm.free 2 (by omega)
     obtain rfl : j = 0 := by omega
     have hv' : acc = (s.slots q).b := hv.symm
     subst hv'
     clear hv hIm hb
     go_wp2_with fail
     refine bodyPost_ret (v := .tuple #[.agg #[.int .u8 (letter (s.slots q).kind), .int .i64 (s.slots q).b.lo, .int .i64 (s.slots q).b.hi], .int .i64 0]) ?_ rfl ⟨rfl, ?_⟩
     ·simp [results, Tryd.results56, go_sem, *]
     ·have := HBW.out.trans (HB2.out.mono (by omega))
      (repeat' (first | with_reducible exact this | with_reducible refine Below.setCell ?_ ?_ _ | with_reducible refine Below.alloc ?_ ?_ _ | (simp; done) | (simp; omega) | omega))
   ·have i1' : (1 : Int) ≤ i := by omega
    have c1' : (1 : Int) < ocap := by omega
    go_wp2_with fail
    go_loopw [68] (fun t w2 => ∃ (j : Nat) (acc : P.B), t = .int .i64 j ∧ j ≤ i - 1 ∧ P.Img w2 wo.heap.size 3 (rwcell ⟨(s.slots q).kind, acc⟩) ∧ vfold s.slots (i - 1) (q + 1) (s.slots q).b = vfold s.slots (i - 1 - j) (q + 1 + j) acc ∧ Below wo.heap.size wo w2) (fun t _ => i - 1 - (intOf t).toNat)
    case atStart => exact ⟨0, (s.slots q).b, rfl, by omega, rwimg3 (heap_alloc_new wo _), rfl, (Below.refl _ _).alloc (Nat.le_refl _) _⟩
    case round =>
     obtain ⟨w2, hw2⟩ : ∃ x, x = wr := ⟨_, rfl⟩
     subst hw2
     obtain ⟨j, acc, rfl, hj, hIm, hv, hb⟩ := hrel
     have HIM := Lib.hid hIm
     have HV := Lib.hid hv
     have HB2 := Lib.hid hb
     have zgb := HGB.out.2
     have G0' := (hb.cell (p := ⟨w.heap.size + 1 + 1, 0, none⟩) zr1).trans G0
     have E0' := (hb.frozen (p := ⟨w.heap.size + 1 + 1, 0, none⟩) zr1).trans E0
     have G1' := (hb.cell (p := ⟨w.heap.size + 1 + 1, 1, none⟩) zr1).trans G1
     have E1' := (hb.frozen (p := ⟨w.heap.size + 1 + 1, 1, none⟩) zr1).trans E1
     have G2' := (hb.cell (p := ⟨w.heap.size + 1 + 1, 2, none⟩) zr1).trans G2
     have E2' := (hb.frozen (p := ⟨w.heap.size + 1 + 1, 2, none⟩) zr1).trans E2
     have zR : w.heap.size + 1 + 1 < w2.heap.size := by have := hb.size; omega
     clear G0 G1 G2 E0 E1 E2
     have zo : wo.heap.size < w2.heap.size := hIm.lt (by omega)
     have u0 := hIm.cell 0 (by omega); have u1 := hIm.cell 1 (by omega); have u2 := hIm.cell 2 (by omega)
     simp only [rwcell_0, rwcell_1, rwcell_2] at u0 u1 u2
     have v1 := hIm.free 1 (by omega); have v2 := hIm.free 2 (by omega)
     by_cases hlt : j < i - 1
     ·have e0 : w2.cell? ⟨gb, 3 + j * 3, none⟩ = some (.int .u8 (letter (s.slots (q + 1 + j)).kind)) := by
       have := owned_at HOWN.out (show j + 1 < i by omega) (by omega : 0 < 3)
       rw [show (j + 1) * 3 + 0 = 3 + j * 3 by omega, show q + (j + 1) = q + 1 + j by omega, rwcell_0] at this
       exact (hb.cell (p := ⟨gb, 3 + j * 3, none⟩) zgb).trans this
      have e1 : w2.cell? ⟨gb, 3 + j * 3 + 1, none⟩ = some (.int .i64 (s.slots (q + 1 + j)).b.lo) := by
       have := owned_at HOWN.out (show j + 1 < i by omega) (by omega : 1 < 3)
       rw [show (j + 1) * 3 + 1 = 3 + j * 3 + 1 by omega, show q + (j + 1) = q + 1 + j by omega, rwcell_1] at this
       exact (hb.cell (p := ⟨gb, 3 + j * 3 + 1, none⟩) zgb).trans this
      have e2 : w2.cell? ⟨gb, 3 + j * 3 + 2, none⟩ = some (.int .i64 (s.slots (q + 1 + j)).b.hi) := by
       have := owned_at HOWN.out (show j + 1 < i by omega) (by omega : 2 < 3)
       rw [show (j + 1) * 3 + 2 = 3 + j * 3 + 2 by omega, show q + (j + 1) = q + 1 + j by omega, rwcell_2] at this
       exact (hb.cell (p := ⟨gb, 3 + j * 3 + 2, none⟩) zgb).trans this
      have hj1 : (j : Int) < (i : Int) - 1 := by omega
      have hj2 : (j : Int) < ((i - 1 : Nat) : Int) := by omega
      obtain ⟨r, hr⟩ : ∃ r, i - 1 - j = r + 1 := ⟨i - 1 - j - 1, by omega⟩
      have HST : Hid (i - 1 - (j + 1) = r ∧ j + 1 ≤ i - 1) := ⟨by omega, by omega⟩
      rw [hr] at hv
      have HV2 := Lib.hid hv
      have zn5 : ¬ w2.heap.size = wo.heap.size := by omega
      have zn6 : ¬ w2.heap.size = gb := by omega
      have zn7 : gb < w2.heap.size := by omega
      clear hv hIm hb hr
      go_wp2_with fail
      refine (RefJoin_any _ _ _ _ _).mono ?_
      rintro e w3 ⟨rfl, hb3⟩
      have hI3 := (HIM.out.alloc _).later hb3 (by simp; omega)
      have u1 := hI3.cell 1 (by omega); have u2 := hI3.cell 2 (by omega)
      simp only [rwcell_1, rwcell_2] at u1 u2
      have v1 := hI3.free 1 (by omega); have v2 := hI3.free 2 (by omega)
      have HI3 := Lib.hid hI3
      have HB3 := Lib.hid ((HB2.out.alloc (by omega) _).trans (hb3.mono (by simp; omega)))
      clear hI3 hb3 e0 e1 e2 u0 G0' G1' G2' E0' E1' E2'
      go_wp2_with fail
      go_roundw
      case rel =>
       go_light
       refine ⟨j + 1, bjoin acc (s.slots (q + 1 + j)).b, by go_num, HST.out.2, ?_, ?_, ?_⟩
       ·refine ((HI3.out.set (j := 1) (by omega) _).set (j := 2) (by omega) _).congr fun t ht => ?_
        rcases t with _ | _ | _ | t
        ·rfl
        ·rfl
        ·rfl
        ·omega
       ·rw [HST.out.1, HV2.out]; rfl
       ·exact (HB3.out.setCell (Nat.le_refl _) _).setCell (Nat.le_refl _) _
      case measure => simp [intOf]; omega
     ·obtain rfl : j = i - 1 := by omega
      have hv' : vfold s.slots (i - 1) (q + 1) (s.slots q).b = acc := by rw [hv, Nat.sub_self]; rfl
      have HVV := Lib.hid hv'
      clear hv hv' hIm hb HV
      have hj3 : ¬ ((i - 1 : Nat) : Int) < ((i - 1 : Nat) : Int) := by omega
      go_wp2_with fail
      refine bodyPost_ret (v := .tuple #[.agg #[.int .u8 (letter (s.slots q).kind), .int .i64 acc.lo, .int .i64 acc.hi], .int .i64 0]) ?_ rfl ⟨by rw [← HVV.out], ?_⟩
      ·simp [results, Tryd.results56, go_sem, *]
      ·have := HBW.out.trans (HB2.out.mono (by omega))
       (repeat' (first | with_reducible exact this | with_reducible refine Below.setCell ?_ ?_ _ | with_reducible refine Below.alloc ?_ ?_ _ | (simp; done) | (simp; omega) | omega))

theorem RLoad_any (s : VS) (hs : VSOk s) (w : World) (hg : AllAt w) (a : Wh) (ha : WOk a) (o : Int) (ho : In64 o) :
  Calls Tryd.prog 56 #[.agg (scells rwcell s).toArray, .agg #[.int .u8 (letter a.kind), .int .i64 a.b.lo, .int .i64 a.b.hi], .int .i64 o] w fun e w' =>
   e = .returned (.tuple #[.agg #[.int .u8 (letter (s.load a o).1.kind), .int .i64 (s.load a o).1.b.lo, .int .i64 (s.load a o).1.b.hi], .int .i64 (s.load a o).2]) ∧ Below w.heap.size w w' := by
 by_cases he : (vfar a o).2 = 0
 ·have hk := vfar_kind ha he
  obtain ⟨-, hlo, hhi⟩ := vfar_at ha he
  have hok := vfar_ok ha ho
  have hrf : rfar a o = ((vfar a o).1, 0) := by unfold rfar; rw [if_pos he, he]
  unfold VS.load
  rw [if_neg (by simp [he])]
  obtain ⟨k, ⟨l, h⟩⟩ := a
  simp only at hk
  generalize hv : vfar ⟨k, ⟨l, h⟩⟩ o = v at *
  obtain ⟨⟨L, H⟩, er⟩ := v
  simp only at he hlo hhi hok hrf ⊢
  subst he
  by_cases h3 : k = 3
  ·subst h3
   rw [if_neg (by simp)]
   simp only [low, high, if_true] at hlo hhi
   have hLH := hok.2.2
   simp only at hLH
   obtain ⟨q, hq⟩ := Int.eq_ofNat_of_zero_le (show 0 ≤ L + 16 by omega)
   have e : (L + 16).toNat = q := by omega
   obtain ⟨m, hm⟩ := Int.eq_ofNat_of_zero_le (show 0 ≤ H - L + 1 by omega)
   have e2 : (H - L + 1).toNat = m := by omega
   have K := RLoad_frame s hs w hg l h ha.2 o ho q m L H hq (by omega) (by omega) (by omega) hrf
   rw [e, e2]
   by_cases hl : L = H
   ·obtain rfl : m = 1 := by omega
    rw [if_pos hl]
    rw [rlres_one] at K
    refine K.mono fun e w' he => ⟨he.1.trans ?_, he.2⟩
    split <;> rfl
   ·rw [if_neg hl]
    rw [rlres_many (by omega)] at K
    exact K
  ·rw [if_pos h3]
   exact RLoad_told s w hg k l h (by omega) ha.2 o ho _ hrf
 ·have e : s.load a o = (.nil, (vfar a o).2) := by unfold VS.load; rw [if_pos he]
  rw [e]
  exact RLoad_err s w hg a ha o ho (rfar a o).1 (vfar a o).2 (by unfold rfar; rfl) he
end Go.Proofs.YtfpoicdfkjbknaaDoor.W
