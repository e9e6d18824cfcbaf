/- The walk of the reference's goes (all ways from a step on), by contract. Conditions: the program's cells are known, its check gives nothing; what is known lies in a block of 81 cells; the variable all holds the least and the greatest number. -/
import Derived.Test.YtfpoicdfkjbknaaDoorW7
import Derived.Test.YtfpoicdfkjbknaaDoorW5
import Derived.Test.YtfpoicdfkjbknaaDoorW3
import Derived.Test.YtfpoicdfkjbknaaDoorPureVerWalk
import Derived.Test.YtfpoicdfkjbknaaDoorMidQuiet
import Derived.Deep.RegionLaw
import Derived.Deep.CutBlock
import Derived.Deep.DeepCutAuto
import Derived.Deep.LoopGhost
import Derived.Deep.Light
namespace Go.Proofs.YtfpoicdfkjbknaaDoor.W
open Go.RowKit Go.Proofs.YtfpoicdfkjbknaaDoor.P
set_option linter.unusedSimpArgs false
set_option linter.unusedVariables false
/-- what the switch leaves -/
def RStepTo (n bs : Nat) (s : VS) (t : Step) (pc q : Nat) (er : Int) (s2 : VS) (w : World) : Prop :=
 (er = 0 ∧ pc < q ∧ q < n ∧ VSOk s2 ∧ P.Img w bs 81 (simg rwcell s2) ∧ s.step t pc = .go (some (s2, (q : Int))) none) ∨ (er ≠ 0 ∧ s.step t pc = .err er)
theorem RStepTo.pair {n bs : Nat} {s s2 : VS} {t : Step} {pc q : Nat} {er : Int} {w : World} (hs : s.step t pc = if er ≠ 0 then .err er else .go (some (s2, (pc : Int) + 1)) none)
  (hq : q = pc + 1) (hn : pc + 1 < n) (hm : VSOk s2) (ha : P.Img w bs 81 (simg rwcell s2)) : RStepTo n bs s t pc q er s2 w := by
 subst hq
 by_cases he : er = 0
 ·exact .inl ⟨he, by omega, hn, hm, ha, by rw [hs, if_neg (by simp [he])]; push_cast; rfl⟩
 ·exact .inr ⟨he, by rw [hs, if_pos he]⟩
theorem rstep_load (s : VS) (d sr : Nat) (r : Bool) (o nn pc : Int) : s.step ⟨25, d, sr, r, o, nn⟩ pc = if (s.load (s.regs sr) o).2 ≠ 0 then .err (s.load (s.regs sr) o).2 else .go (some ({ s with regs := upd s.regs d (s.load (s.regs sr) o).1 }, pc + 1)) none := by
 unfold VS.step; simp [VS.setReg]
theorem rstep_store (s : VS) (d sr : Nat) (r : Bool) (o nn pc : Int) : s.step ⟨26, d, sr, r, o, nn⟩ pc = if (s.store (s.regs d) o (s.second ⟨26, d, sr, r, o, nn⟩)).2 ≠ 0 then .err (s.store (s.regs d) o (s.second ⟨26, d, sr, r, o, nn⟩)).2 else .go (some ((s.store (s.regs d) o (s.second ⟨26, d, sr, r, o, nn⟩)).1, pc + 1)) none := by
 unfold VS.step; simp
theorem rstep_call (s : VS) (d sr : Nat) (r : Bool) (o nn pc : Int) : s.step ⟨27, d, sr, r, o, nn⟩ pc = if (s.call nn).2 ≠ 0 then .err (s.call nn).2 else .go (some ((s.call nn).1, pc + 1)) none := by
 unfold VS.step; simp
theorem rstep_make (s : VS) (c : Int) (hc : c ≤ 13) (d sr : Nat) (r : Bool) (o nn pc : Int) (hn : c = 13 → r = false ∧ nn = 0) : s.step ⟨c, d, sr, r, o, nn⟩ pc = if (wcounts c (s.regs d) (s.second ⟨c, d, sr, r, o, nn⟩)).2 ≠ 0 then .err (wcounts c (s.regs d) (s.second ⟨c, d, sr, r, o, nn⟩)).2 else .go (some ({ s with regs := upd s.regs d (wcounts c (s.regs d) (s.second ⟨c, d, sr, r, o, nn⟩)).1 }, pc + 1)) none := by
 have ho : s.operand ⟨c, d, sr, r, o, nn⟩ = s.second ⟨c, d, sr, r, o, nn⟩ := by
  unfold VS.operand
  by_cases h : c = 13
  ·obtain ⟨h1, h2⟩ := hn h
   rw [if_pos h, h1, h2]; rfl
  ·rw [if_neg h]
 unfold VS.step
 rw [ho]
 simp only [show ¬ c = 28 by omega, show ¬ c = 14 by omega, show ¬ (15 ≤ c ∧ c ≤ 24) by omega, show ¬ c = 25 by omega, show ¬ c = 26 by omega, show ¬ c = 27 by omega, if_false]
 simp [VS.setReg]
theorem rstep_ask (s : VS) (c : Int) (hc : 15 ≤ c ∧ c ≤ 24) (d sr : Nat) (r : Bool) (o nn pc : Int) : s.step ⟨c, d, sr, r, o, nn⟩ pc = s.asks ⟨c, d, sr, r, o, nn⟩ pc := by
 unfold VS.step
 simp only [show ¬ c = 28 by omega, show ¬ c = 14 by omega, if_false]
 rw [if_pos hc]
theorem rstep_jump (s : VS) (d sr : Nat) (r : Bool) (o nn pc : Int) : s.step ⟨14, d, sr, r, o, nn⟩ pc = .go (some (s, pc + 1 + o)) none := by
 unfold VS.step; simp
theorem rstep_exit (s : VS) (d sr : Nat) (r : Bool) (o nn pc : Int) : s.step ⟨28, d, sr, r, o, nn⟩ pc = if (s.regs 0).kind = 1 then .done (s.regs 0).b else if (s.regs 0).kind = 0 then .err 8 else .err 1 := by
 unfold VS.step; simp
/-- registers 1 to k - 1 are cleared -/
def rclr (f : Nat → Wh) (k : Nat) : Nat → Wh := fun j => if 1 ≤ j ∧ j < k then Wh.nil else f j
theorem rclr_1 (f : Nat → Wh) : rclr f 1 = f := by funext j; unfold rclr; rw [if_neg (by omega)]
theorem rclr_succ (f : Nat → Wh) {k : Nat} (hk : 1 ≤ k) : upd (rclr f k) k Wh.nil = rclr f (k + 1) := by
 funext j
 by_cases h : j = k
 ·subst h; rw [upd_same]; unfold rclr; rw [if_pos (by omega)]
 ·rw [upd_other h]; unfold rclr
  by_cases h2 : 1 ≤ j ∧ j < k
  ·rw [if_pos h2, if_pos (by omega)]
  ·rw [if_neg h2, if_neg (by omega)]
def rret (n : Int) : Wh := if n = 1 then ⟨5, bone 0⟩ else if n = 3 then .num (bone 0) else .num ball
def rcall (s : VS) (n : Int) : VS := { s with regs := rclr (upd s.regs 0 (rret n)) 6 }
theorem rcall_ok {s : VS} {n : Int} (h : n = 2 ∨ (s.regs 1).kind = 1) : s.call n = (rcall s n, 0) := by
 unfold VS.call rcall
 rw [if_neg (by omega), if_neg (by omega)]
 congr 2
 funext j
 unfold rclr
 by_cases h0 : j = 0
 ·subst h0; simp [upd, rret]
 ·rw [if_neg h0, upd_other h0]; simp only [Nat.lt_succ_iff]
theorem rcall_err {s : VS} {n : Int} (h : n ≠ 2) (h1 : (s.regs 1).kind ≠ 1) : (s.call n).2 = if (s.regs 1).kind = 0 then 8 else 1 := by
 unfold VS.call
 by_cases h0 : (s.regs 1).kind = 0
 ·rw [if_pos ⟨h, h0⟩, if_pos h0]
 ·rw [if_neg (by omega), if_neg h0, if_pos ⟨h, h1⟩]
/-- a slot of the frame is stored -/
theorem rimg_slot {w : World} {b : Nat} {s : VS} (h : P.Img w b 81 (simg rwcell s)) {j r : Nat} (hr : r < 16) (hj : j = 11 + r) (x : Wh) :
  P.Img (((w.setCell ⟨b, j * 3, none⟩ (.int .u8 (letter x.kind))).setCell ⟨b, j * 3 + 1, none⟩ (.int .i64 x.b.lo)).setCell ⟨b, j * 3 + 2, none⟩ (.int .i64 x.b.hi)) b 81 (simg rwcell { s with slots := upd s.slots r x }) := by
 have e : j * 3 = 33 + r * 3 := by omega
 have K := (((h.set (j := 33 + r * 3) (by omega) (rwcell x 0)).set (j := 33 + r * 3 + 1) (by omega) (rwcell x 1)).set (j := 33 + r * 3 + 2) (by omega) (rwcell x 2)).congr (simg_setslot hr x)
 rw [e]
 exact K
theorem rimg_reg {w : World} {b : Nat} {s : VS} (h : P.Img w b 81 (simg rwcell s)) {r : Nat} (hr : r < 11) (x : Wh) :
  P.Img (((w.setCell ⟨b, r * 3, none⟩ (.int .u8 (letter x.kind))).setCell ⟨b, r * 3 + 1, none⟩ (.int .i64 x.b.lo)).setCell ⟨b, r * 3 + 2, none⟩ (.int .i64 x.b.hi)) b 81 (simg rwcell { s with regs := upd s.regs r x }) := by
 have K := (((h.set (j := r * 3) (by omega) (rwcell x 0)).set (j := r * 3 + 1) (by omega) (rwcell x 1)).set (j := r * 3 + 2) (by omega) (rwcell x 2)).congr (simg_setreg hr x)
 exact K
theorem rstore_er {s : VS} {x y : Wh} {o L H er : Int} (hv : vfar x o = (⟨L, H⟩, er)) (he : er ≠ 0) : s.store x o y = (s, er) := by unfold VS.store; rw [hv]; simp [he]
theorem rstore_t {s : VS} {x y : Wh} {o L H : Int} (hv : vfar x o = (⟨L, H⟩, 0)) (k2 : x.kind = 2) : s.store x o y = (s, 6) := by unfold VS.store; rw [hv]; simp [k2]
theorem rstore_none {s : VS} {x y : Wh} {o L H : Int} (hv : vfar x o = (⟨L, H⟩, 0)) (k2 : x.kind ≠ 2) (y0 : y.kind = 0) : s.store x o y = (s, 8) := by unfold VS.store; rw [hv]; simp [k2, y0]
theorem rstore_c1 {s : VS} {x y : Wh} {o L H : Int} (hv : vfar x o = (⟨L, H⟩, 0)) (y0 : y.kind ≠ 0) (k4 : x.kind = 4) (y1 : y.kind ≠ 1) : s.store x o y = (s, 1) := by unfold VS.store; rw [hv]; simp [k4, y0, y1]
theorem rstore_c0 {s : VS} {x y : Wh} {o L H : Int} (hv : vfar x o = (⟨L, H⟩, 0)) (y0 : y.kind ≠ 0) (k4 : x.kind = 4) (y1 : y.kind = 1) : s.store x o y = (s, 0) := by unfold VS.store; rw [hv]; simp [k4, y1]
theorem rstore_range {s : VS} {x y : Wh} {o L H : Int} (hv : vfar x o = (⟨L, H⟩, 0)) (k2 : x.kind ≠ 2) (y0 : y.kind ≠ 0) (k4 : x.kind ≠ 4) (h : L ≠ H) : s.store x o y = (s, 2) := by unfold VS.store; rw [hv]; simp [k2, k4, y0, h]
theorem rstore_put {s : VS} {x y : Wh} {o L H : Int} (hv : vfar x o = (⟨L, H⟩, 0)) (k2 : x.kind ≠ 2) (y0 : y.kind ≠ 0) (k4 : x.kind ≠ 4) (h : L = H) : s.store x o y = ({ s with slots := upd s.slots (L + 16).toNat y }, 0) := by unfold VS.store; rw [hv]; simp [k2, k4, y0, h]
theorem infoRB : ((Tryd.prog).info? 49).map (fun i => (i.zero, i.size, i.bytes)) = some (some (.agg #[.int .i64 0, .int .i64 0]), 2, 16) := by kernel_rfl

set_option maxRecDepth 100000 in
set_option maxHeartbeats 100000000 in
theorem RGoes_any (S : Nat → Step) (a : Addr) (n cap b : Nat) (hcap : n ≤ cap) (hn2 : n ≤ 200) (hab : a.block < b) (hgb : 4 < b) (HPS : ∀ j, j < n → StepOk n j (S j)) (HWR : ∀ j, j < n → (S j).wrong = 0) (HOFF : ∀ j, j < n → In64 (S j).off) : ∀ f, GoesC S a n cap b f := by
 intro f
 induction f with
 | zero => intro s pc k v w hs hpc hf; omega
 | succ f ih =>
 intro s pc k v w hs hpc hf hk0 hk1 hkl hke hg hc hL
 have HW0 := Lib.hid (Below.refl w.heap.size w)
 have hlt := hL.lt
 obtain ⟨lk, en⟩ := k
 simp only at hk0 hk1 hkl hke
 obtain ⟨lf, hlf⟩ : ∃ lf, lf = 4000 - lk := ⟨_, rfl⟩
 have lf0 : 0 ≤ lf := by omega
 have lf1 : lf ≤ 4000 := by omega
 have c0 : w.cell? ⟨b, 0, none⟩ = some (.slice (some a) n cap) := hL.img.cell 0 (by omega)
 have c1 : w.cell? ⟨b, 1, none⟩ = some (.int .i64 lf) := by rw [hlf]; exact hL.img.cell 1 (by omega)
 have w1' := hL.img.free 1 (by omega)
 have hin : In64 (S pc).num := (HPS pc hpc).2.2
 have hw := HWR pc hpc
 have hof := HOFF pc hpc
 obtain ⟨R, hR⟩ : ∃ R, vwalk S (f + 1) s pc ⟨lk, en⟩ = R := ⟨_, rfl⟩
 rw [hR]
 rw [vwalk_succ, Int.toNat_natCast] at hR
 simp only at hR
 have ht := HPS pc hpc
 generalize hT : S pc = t at *
 have HTE := Lib.hid hT
 obtain ⟨c, d, sr, r, o, nn⟩ := t
 obtain ⟨g1, g2, g3, g4⟩ := wrong_ok hw
 simp only at g1 g2 g3 g4 hin
 obtain ⟨d, rfl⟩ := Int.eq_ofNat_of_zero_le g2.1
 obtain ⟨sr, rfl⟩ := Int.eq_ofNat_of_zero_le g2.2.2.1
 have dN : d < 11 := by omega
 have sN : sr < 11 := by omega
 have d1 : (d : Int) < 11 := by omega
 have s1 : (sr : Int) < 11 := by omega
 have d27 : (d : Int) < 27 := by omega
 have s27 : (sr : Int) < 27 := by omega
 have pc1 : (pc : Int) < n := by omega
 have pc2 : (pc : Int) < 200 := by omega
 have pc0 : (0 : Int) ≤ pc := by omega
 have HL := Lib.hid hL
 have HIH := Lib.hid ih
 have HP := Lib.hid HPS
 have HWRG := Lib.hid HWR
 have HKE := Lib.hid hke
 have HS := Lib.hid hs
 have HC := Lib.hid hc
 have HG := Lib.hid hg
 have HTT := Lib.hid ht
 have HWW := Lib.hid hw
 have HOF : Hid (In64 o) := hof
 have HNB := Lib.hid g4
 have HLF := Lib.hid hlf
 have HR := Lib.hid hR
 clear hL ih hs hc hg ht hw hof hT HPS HWR HOFF hke g4 hlf hR
 have hl1 : b < w.heap.size + 1 := by omega
 have hl2 : b < w.heap.size + 1 + 1 := by omega
 go_enter Tryd.func33, Tryd.ntmps33
 go_upto_region 2 with fail
 generalize hW0 : World.setCell w ⟨b, 1, none⟩ (.int .i64 (lf - 1)) = w0
 have hs0 : w0.heap.size = w.heap.size := by rw [← hW0]; simp
 have hL0 : LookIs w0 b (.slice (some a) n cap) v ⟨lk + 1, en⟩ := by
  rw [← hW0, show lf - 1 = 4000 - (lk + 1) by have := HLF.out; omega]
  exact HL.out.looked (lk + 1)
 have hR0 : Rest b v.ownBlock w w0 := hW0 ▸ (Rest.refl _ _ _).but ((But.refl b w).setCell (.inl rfl) _) (.inl rfl)
 generalize hW : World.alloc (World.alloc w0 _) _ = w1
 have hb01 : Below w0.heap.size w0 w1 := hW ▸ ((Below.refl _ _).alloc (Nat.le_refl _) _).alloc (by simp) _
 have IS : P.Img w1 w.heap.size 81 (simg rwcell s) := by rw [← hW, ← hs0]; exact Img.snew.alloc _
 have IF : P.Img w1 (w.heap.size + 1) 2 (fun _ => .int .i64 0) := by rw [← hW, ← hs0]; exact Img.zero2 (by simpa using heap_alloc_new (World.alloc w0 _) _)
 have hL1 : Led b (.slice (some a) n cap) v w v ⟨lk + 1, en⟩ w1 := ⟨hL0.later hb01, hR0.later hb01, fun g hg => .inl hg⟩
 clear hW0 hs0 hL0 hR0 hb01
 clear hW hl1 hl2 c0 c1 w1'
 have HIS1 := Lib.hid IS
 have HIF1 := Lib.hid IF
 have HL1 := Lib.hid hL1
 have zF : w.heap.size + 1 < w1.heap.size := IF.lt (by omega)
 have zS : w.heap.size < w1.heap.size := by omega
 clear IS IF hL1
 have nF : v.ownBlock ≠ some (w.heap.size + 1) := row_lt HL.out (by omega)
 have nS : v.ownBlock ≠ some w.heap.size := row_lt HL.out (by omega)
 have HNF := Lib.hid nF
 have HNS := Lib.hid nS
 clear nF nS
 have zb1 : b < w1.heap.size := HL1.out.look.lt
 have c0 : w1.cell? ⟨b, 0, none⟩ = some (.slice (some a) n cap) := HL1.out.look.img.cell 0 (by omega)
 have c1 : w1.cell? ⟨b, 1, none⟩ = some (.int .i64 (lf - 1)) := by
  have := HL1.out.look.img.cell 1 (by omega)
  rw [show lf - 1 = 4000 - (lk + 1) by have := HLF.out; omega]
  exact this
 have r0 : w1.cell? ⟨w.heap.size + 1, 0, none⟩ = some (.int .i64 0) := HIF1.out.cell 0 (by omega)
 have r1 : w1.cell? ⟨w.heap.size + 1, 1, none⟩ = some (.int .i64 0) := HIF1.out.cell 1 (by omega)
 have t0 := HIF1.out.free 0 (by omega)
 have t1 := HIF1.out.free 1 (by omega)
 by_cases hl : 4000 < lk + 1
 ·have hr2 := HR.out
  rw [if_pos hl] at hr2
  subst hr2
  have l1 : lf - 1 < 0 := by have := HLF.out; omega
  clear hl
  as_aux_lemma =>
   go_wp2_with fail
   refine bodyPost_ret (v := .agg #[.int .i64 4, .int .i64 pc]) ?_ rfl ?_
   ·simp [results, Tryd.results33, go_sem, *]
   ·exact ⟨v, rfl, HL1.out.but (c := w.heap.size + 1) (((But.refl (w.heap.size + 1) _).setCell (.inl rfl) _).setCell (.inl rfl) _) (show w.heap.size ≤ w.heap.size + 1 by omega) (by omega) HNF.out⟩
 have hr2 := HR.out
 rw [if_neg hl] at hr2
 have HR2 := Lib.hid hr2
 have l1 : ¬ lf - 1 < 0 := by have := HLF.out; omega
 clear hr2 hl HR
 have HG1 := Lib.hid (HG.out.under (HL1.out.below HL.out) hgb)
 have HC1 := Lib.hid (HC.out.under (HL1.out.below HL.out) hab)
 obtain ⟨e0, e1, e2, e3, e4, e5⟩ := HC1.out pc hpc
 rw [HTE.out] at e0 e1 e2 e3 e4 e5
 simp only at e0 e1 e2 e3 e4 e5
 have l0 := block_lt_of_cell e0
 clear r0 r1 t0 t1
 go_upto_region 6 with fail
 generalize hW : World.alloc w1 _ = w2
 have IT : P.Img w2 w1.heap.size 6 (timg ⟨c, d, sr, r, o, nn⟩) := hW ▸ timg_at (heap_alloc_new w1 _)
 have hb2 : Below w1.heap.size w1 w2 := hW ▸ (Below.refl _ _).alloc (Nat.le_refl _) _
 clear hW e0 e1 e2 e3 e4 e5 l0 c0 c1
 obtain ⟨B, hB⟩ : ∃ B, B = w1.heap.size := ⟨_, rfl⟩
 rw [← hB] at IT hb2 ⊢
 have HIT2 := Lib.hid IT
 have HIS2 := Lib.hid (HIS1.out.later hb2 (by omega))
 have HIF2 := Lib.hid (HIF1.out.later hb2 (by omega))
 have HL2 := Lib.hid (HL1.out.later (hB ▸ hb2))
 have zB : B < w2.heap.size := IT.lt (by omega)
 have zFB : w.heap.size + 1 < B := by omega
 obtain ⟨f0, f1, f2, f3, f4, f5⟩ := tcells IT
 simp only at f0 f1 f2 f3 f4 f5
 clear IT hb2 hB zF zS zb1 HIS1 HIF1 HL1 HG1 HC1
 go_wp2_with fail
 refine (RefOne_any nn _).mono ?_
 rintro e wo ⟨rfl, hbo⟩
 have HITo := Lib.hid (HIT2.out.later hbo zB)
 have HISo := Lib.hid (HIS2.out.later hbo (by omega))
 have HBO := Lib.hid hbo
 have zo : w2.heap.size ≤ wo.heap.size := hbo.size
 obtain ⟨f0, f1, f2, f3, f4, f5⟩ := tcells HITo.out
 obtain ⟨m0, m1, m2⟩ := rrcells HISo.out sN
 simp only at f0 f1 f2 f3 f4 f5
 have zBo : B < wo.heap.size := by omega
 have zSo : w.heap.size < wo.heap.size := by omega
 clear hbo
 go_upto_if 41 with fail
 trace "A"
 go_cut [9] (fun p wx => ∃ Y : Nat, p = .pointer (some ⟨Y, 0, none⟩) ∧ B < Y ∧ P.Img wx Y 3 (rwcell (s.second ⟨c, d, sr, r, o, nn⟩)) ∧ Below w2.heap.size w2 wx)
 case first =>
  as_aux_lemma =>
   cases r with
   | false =>
    go_wp2_with fail
    go_meet
    go_light
    exact ⟨wo.heap.size, rfl, zBo, rwimg_at (x := .num (bone nn)) (heap_alloc_new wo _), HBO.out.alloc zo _⟩
   | true =>
    have nY : ¬ wo.heap.size = w.heap.size := by omega
    have nY2 : ¬ w.heap.size = wo.heap.size := by omega
    go_wp2_with fail
    go_meet
    go_light
    refine ⟨wo.heap.size, rfl, zBo, ?_, ?_⟩
    ·have K := rwimg_at (x := s.second ⟨c, d, sr, true, o, nn⟩) (heap_alloc_new wo (.cells #[.int .u8 (letter (s.regs sr).kind), .int .i64 (s.regs sr).b.lo, .int .i64 (s.regs sr).b.hi] 100 (0, 0)))
     exact K
    ·exact HBO.out.alloc zo _
 case rest =>
  obtain ⟨Y, rfl, hBY, IY, hb3⟩ := hcut
  obtain ⟨w3, hw3⟩ : ∃ x, x = wc := ⟨_, rfl⟩; subst hw3
  have HIY := Lib.hid IY
  have HIT := Lib.hid (HIT2.out.later hb3 (by omega))
  have HIS := Lib.hid (HIS2.out.later hb3 (by omega))
  have HIF := Lib.hid (HIF2.out.later hb3 (by omega))
  have HLd := Lib.hid (HL2.out.later hb3)
  have zY : Y < w3.heap.size := IY.lt (by omega)
  have zW : w2.heap.size ≤ w3.heap.size := hb3.size
  clear hb3 IY HIT2 HIS2 HIF2 HL2 f0 f1 f2 f3 f4 f5 m0 m1 m2
  obtain ⟨f0, f1, f2, f3, f4, f5⟩ := tcells HIT.out
  simp only at f0 f1 f2 f3 f4 f5
  have HGd := Lib.hid (HG.out.under (HLd.out.below HL.out) hgb)
  have HCd := Lib.hid (HC.out.under (HLd.out.below HL.out) hab)
  have zSd : w.heap.size < w3.heap.size := by omega
  have zFd : w.heap.size + 1 < w3.heap.size := by omega
  have zbd : b < w3.heap.size := HLd.out.look.lt
  have zTd : B < w3.heap.size := by omega
  have hn1 : c = 28 ∨ pc + 1 < n := by have := HTT.out.1; simp only at this; omega
  have sp1 : IntKind.i64.wrap ((pc : Int) + 1) = (pc : Int) + 1 := IntWalk.i64_in _ (by omega)
  have hsec : WOk (s.second ⟨c, d, sr, r, o, nn⟩) := HS.out.second hin
  have HSEC := Lib.hid hsec
  clear hsec
  go_upto_block 0 with fail
  trace "B"
  go_cut [8, 10] (fun e p wx => ∃ (er : Int) (q : Nat) (s2 : VS), e = .int .i64 er ∧ p = .int .i64 q ∧ Led b (.slice (some a) n cap) v w v ⟨lk + 1, en⟩ wx ∧ P.Img wx (w.heap.size + 1) 2 (fun _ => .int .i64 0) ∧ RStepTo n w.heap.size s ⟨c, d, sr, r, o, nn⟩ pc q er s2 wx)
  case first =>
   obtain ⟨x0, x1, x2⟩ := rrcells HIS.out dN
   obtain ⟨m0, m1, m2⟩ := rrcells HIS.out sN
   obtain ⟨y0, y1, y2⟩ := rwcells HIY.out
   have hcl : c = 28 ∨ c = 14 ∨ (15 ≤ c ∧ c ≤ 24) ∨ c = 25 ∨ c = 26 ∨ c = 27 ∨ c ≤ 13 := by omega
   rcases hcl with rfl | rfl | hc | rfl | rfl | rfl | hc
   ·as_aux_lemma =>
     have HST := Lib.hid (rstep_exit s d sr r o nn pc)
     obtain ⟨z0, z1, z2⟩ := rrcells HIS.out (by omega : 0 < 11)
     simp only [Nat.zero_mul, Nat.zero_add] at z0 z1 z2
     have ok0 : KOk (s.regs 0).kind := (HS.out.1 0).1
     clear x0 x1 x2 m0 m1 m2 y0 y1 y2
     by_cases e1 : (s.regs 0).kind = 1
     ·have hs2 := HST.out
      rw [if_pos e1] at hs2
      have hr3 := HR2.out
      rw [hs2] at hr3
      have HR3 := Lib.hid hr3
      have q1 : (letter (s.regs 0).kind == 110) = true := rbeq_yes ((letter_1 ok0).2 e1)
      clear hs2 hr3 e1 ok0
      generalize s.regs 0 = x at *
      obtain ⟨xk, ⟨xl, xh⟩⟩ := x
      simp only at z0 z1 z2 q1
      go_upto_region 13 with fail
      obtain ⟨og, ocap, hog⟩ : ∃ og ocap, v = .slice og en.length ocap := by
       rcases HLd.out.look.own.2 with ⟨h1, h2⟩ | ⟨g, cap, cur, h1, -⟩
       ·exact ⟨none, 0, by rw [h1]; simp at h2; simp [h2]⟩
       ·exact ⟨_, _, h1⟩
      subst hog
      have hO := HLd.out.look.own
      have own : ∀ g, (Value.slice og en.length ocap).ownBlock = some g → b + 1 ≤ g ∧ g < w3.heap.size := hO.lt
      have NB := Lib.hid (show some b ≠ (Value.slice og en.length ocap).ownBlock from fun e => by have := (own b e.symm).1; omega)
      have NFO := Lib.hid (show some (w.heap.size + 1) ≠ (Value.slice og en.length ocap).ownBlock from fun e => HNF.out e.symm)
      have o1 : w3.cell? ⟨b, 2, none⟩ = some (.slice og en.length ocap) := HLd.out.look.img.cell 2 (by omega)
      have f2' : w3.frozen? ⟨b, 2, none⟩ = false := HLd.out.look.img.free 2 (by omega)
      have HO := Lib.hid hO
      have HOwn := Lib.hid own
      have le1 : en.length ≤ 4000 := by omega
      clear hO own
      obtain ⟨i0, hi0, hz0, hz1, hz2⟩ := info_parts infoRB
      have HI0 := Lib.hid hi0; have HZ0 := Lib.hid hz0; have HZ1 := Lib.hid hz1; have HZ2 := Lib.hid hz2
      clear hi0 hz0 hz1 hz2
      have HM1 := Lib.hid (show en.length + 1 ≤ maxLen by unfold maxLen; omega)
      have HM2 := Lib.hid (show (en.length + 1) * 16 ≤ 140737488355328 by omega)
      have HM3 := Lib.hid (show b ≤ w3.heap.size by omega)
      have HM4 := Lib.hid (show b < w3.heap.size + 1 by omega)
      go_region_law (first | ((refine step_append_lies _ (by rfl) _ _ _ (by rfl) (b + 1) 49 i0 _ 2 16 Tryd.underlying96 HI0.out HZ0.out HZ1.out HZ2.out rfl (by decide) (.slice og en.length ocap) en.length (brow en) (by rfl) ((HO.out.alloc _).drew) ⟨w3.heap.size, 0, none⟩ 1 1 [.int .i64 xl, .int .i64 xh] (by rfl) (by rfl) (World.news_of_block (cs := #[.int .i64 xl, .int .i64 xh]) (t := 49) (fr := (0, 0)) (heap_alloc_new w3 _)) (by simp [Value.oneCell']) Nat.zero_lt_one HM1.out HM2.out (by simp; exact HM3.out) (w3.heap.size + 1) (by simp) ?_; intro gg gcap wa hown1 hgrow hat hlt1; have q0' : wa.cell? ⟨b, 2, none⟩ = some (.slice og en.length ocap) := (by rw [hgrow.cell_far _ (by simp; exact HM4.out) NB.out]; simp [go_sem, o1, zbd]); have q1' : wa.frozen? ⟨b, 2, none⟩ = false := (by rw [hgrow.frozen_far _ (by simp; exact HM4.out) NB.out]; simp [go_sem, f2', zbd]); have HOA := Lib.hid hown1; have HGA := Lib.hid hgrow; have HAT := Lib.hid hat; have zga := Lib.hid hlt1; clear hown1 hgrow hat hlt1)))
      all_goals
       generalize hWE : World.setCell wa ⟨b, 2, none⟩ (.slice (some ⟨gg, 0, none⟩) (en.length + 1) gcap) = we
       have hrest : Rest b (Value.slice og en.length ocap).ownBlock w wa := (HLd.out.rest.later (((Below.refl _ _).alloc (Nat.le_refl _) _).drew)).grown HGA.out
       have hHLE : Led b (.slice (some a) n cap) (.slice og en.length ocap) w (.slice (some ⟨gg, 0, none⟩) (en.length + 1) gcap) ⟨lk + 1, en ++ [⟨xl, xh⟩]⟩ we := by
        refine ⟨?_, ?_, ?_⟩
        ·rw [← hWE]
         have hi : P.Img wa b 3 (limg (.slice (some a) n cap) (.slice og en.length ocap) ⟨lk + 1, en⟩) := ((HLd.out.look.img.alloc _).drew).of_block (HGA.out.block b (by simp; omega) NB.out)
         have ho : wa.ownsRow (b + 1) 49 2 (.slice (some ⟨gg, 0, none⟩) (en.length + 1) gcap) (en ++ [(⟨xl, xh⟩ : P.B)]).length (brow (en ++ [(⟨xl, xh⟩ : P.B)])) := by
          rw [brow_snoc, List.length_append]; exact HOA.out
         exact LookIs.ended hi ho
        ·rw [← hWE]
         exact hrest.but ((But.refl b wa).setCell (.inl rfl) _) (.inl rfl)
        ·intro g hg
         have : gg = g := by simpa [Value.ownBlock] using hg
         subst this
         rcases HAT.out with h | h
         ·exact .inl h
         ·right; have := HLd.out.size; omega
       have hIFE : P.Img we (w.heap.size + 1) 2 (fun _ => .int .i64 0) := by
        rw [← hWE]
        exact (((HIF.out.alloc _).drew).of_block (HGA.out.block (w.heap.size + 1) (by simp; omega) NFO.out)).other (by simp only; omega) _
       have hNRE : (Value.slice (some ⟨gg, 0, none⟩) (en.length + 1) gcap).ownBlock ≠ some (w.heap.size + 1) := by
        intro e
        have : gg = w.heap.size + 1 := by simpa [Value.ownBlock] using e
        subst this
        rcases HAT.out with h | h
        ·exact NFO.out h.symm
        ·omega
       have HLE := Lib.hid hHLE
       have HIFE := Lib.hid hIFE
       have HNRE := Lib.hid hNRE
       clear hrest hHLE hIFE hNRE hWE q0' q1' HOA HGA HAT zga HO HOwn o1 f2' z0 z1 z2 f0 f1 f2 f3 f4 f5 HLd HIF HIS HIY HIT
       go_wp2_with fail
       refine (Bare_any 0 _).mono ?_
       rintro e w9 ⟨rfl, hb9⟩
       have IF9 := HIFE.out.later hb9 (HIFE.out.lt (by omega))
       have HL9 := Lib.hid (HLE.out.later hb9)
       have r0 : w9.cell? ⟨w.heap.size + 1, 0, none⟩ = some (.int .i64 0) := IF9.cell 0 (by omega)
       have r1 : w9.cell? ⟨w.heap.size + 1, 1, none⟩ = some (.int .i64 0) := IF9.cell 1 (by omega)
       have t0 := IF9.free 0 (by omega)
       have t1 := IF9.free 1 (by omega)
       have zF9 : w.heap.size + 1 < w9.heap.size := IF9.lt (by omega)
       clear hb9 IF9 HIFE HLE
       go_wp2_with fail
       refine bodyPost_ret (v := .agg #[.int .i64 0, .int .i64 (-1)]) ?_ rfl ?_
       ·simp [results, Tryd.results33, go_sem, *]
       ·rw [← HR3.out]
        exact ⟨_, rfl, HL9.out.but (c := w.heap.size + 1) (((But.refl (w.heap.size + 1) _).setCell (.inl rfl) _).setCell (.inl rfl) _) (show w.heap.size ≤ w.heap.size + 1 by omega) (by omega) HNRE.out⟩
     ·by_cases e0 : (s.regs 0).kind = 0
      ·have hs2 := HST.out
       rw [if_neg e1, if_pos e0] at hs2
       have HS2 := Lib.hid hs2
       have q1 : (letter (s.regs 0).kind == 110) = false := rbeq_no (fun h => e1 ((letter_1 ok0).1 h))
       have q0 : (letter (s.regs 0).kind == 0) = true := rbeq_yes ((letter_0 ok0).2 e0)
       clear hs2 e0 e1 ok0
       go_wp2_with fail
       go_meet
       go_light
       exact ⟨8, pc + 1, s, rfl, by go_num, HLd.out, HIF.out, .inr ⟨by decide, HS2.out⟩⟩
      ·have hs2 := HST.out
       rw [if_neg e1, if_neg e0] at hs2
       have HS2 := Lib.hid hs2
       have q1 : (letter (s.regs 0).kind == 110) = false := rbeq_no (fun h => e1 ((letter_1 ok0).1 h))
       have q0 : (letter (s.regs 0).kind == 0) = false := rbeq_no (fun h => e0 ((letter_0 ok0).1 h))
       clear hs2 e0 e1 ok0
       go_wp2_with fail
       go_meet
       go_light
       exact ⟨1, pc + 1, s, rfl, by go_num, HLd.out, HIF.out, .inr ⟨by decide, HS2.out⟩⟩
   ·as_aux_lemma =>
     obtain ⟨o1, o2⟩ := HTT.out.2.1 (.inl rfl)
     simp only at o1 o2
     obtain ⟨o, rfl⟩ := Int.eq_ofNat_of_zero_le o1
     have sp2 : IntKind.i64.wrap ((pc : Int) + 1 + (o : Int)) = (pc : Int) + 1 + (o : Int) := IntWalk.i64_in _ (by omega)
     have HST := Lib.hid (rstep_jump s d sr r o nn pc)
     go_wp2_with fail
     go_meet
     go_light
     refine ⟨0, pc + 1 + o, s, rfl, by go_num, HLd.out, HIF.out, .inl ⟨rfl, by omega, by omega, HS.out, HIS.out, ?_⟩⟩
     rw [HST.out]
     congr 3
   ·as_aux_lemma =>
     have t28 := rbeq_no (show c ≠ 28 by omega)
     have t14 := rbeq_no (show c ≠ 14 by omega)
     have t15 : 15 ≤ c := hc.1
     have t24 : c ≤ 24 := hc.2
     have HST := Lib.hid (rstep_ask s c hc d sr r o nn pc)
     have hr2 := HR2.out
     rw [HST.out] at hr2
     subst hr2
     have HC5 := Lib.hid hc
     clear hc
     go_wp2_with (first | (go_at_call 29; refine (RefAsks_any _ _).mono ?_; rintro e w' ⟨rfl, rfl⟩; rw [asks_of]) | (with_reducible refine vl_load (by simp [go_sem]; done) 102 (.tmp 4) rfl w.heap.size 0 (by simp [go_sem]; done) (scells rwcell s) _ (Img.scells HIS.out) Tryd.underlying102 rfl (rsize _) ?_))
     have KB := RBoth_any S a n cap b f hcap hn2 hab hgb HIH.out HP.out s pc ⟨lk + 1, en⟩ v w3 HS.out hpc (by omega) (show (0 : Int) ≤ lk + 1 by omega) (show lk + 1 ≤ 4000 by have := HLF.out; omega) (show (en.length : Int) ≤ lk + 1 by omega) HKE.out HGd.out HCd.out HLd.out.look (HP.out pc hpc) (HWRG.out pc hpc) (by rw [HTE.out]; exact HC5.out)
     rw [HTE.out] at KB
     refine KB.mono ?_
     clear KB
     rintro e w9 ⟨v9, rfl, hL9⟩
     have nr9 : v9.ownBlock ≠ some (w.heap.size + 1) := row_ne hL9.row (fun g hg => (HLd.out.look.row hg).2) (by omega) HNF.out
     have IF9 := hL9.img HIF.out (by omega) (by omega) HNF.out
     have r0 : w9.cell? ⟨w.heap.size + 1, 0, none⟩ = some (.int .i64 0) := IF9.cell 0 (by omega)
     have r1 : w9.cell? ⟨w.heap.size + 1, 1, none⟩ = some (.int .i64 0) := IF9.cell 1 (by omega)
     have t0 := IF9.free 0 (by omega)
     have t1 := IF9.free 1 (by omega)
     have zF9 : w.heap.size + 1 < w9.heap.size := IF9.lt (by omega)
     have HL9 := Lib.hid (HLd.out.trans hL9)
     have NR9 := Lib.hid nr9
     clear hL9 nr9 IF9
     obtain ⟨r9, hr9⟩ : ∃ r9, waysOf (vwalk S f) pc ⟨lk + 1, en⟩ (s.asks ⟨c, d, sr, r, o, nn⟩ pc) = r9 := ⟨_, rfl⟩
     rw [hr9] at HL9
     have HR9 := Lib.hid hr9
     rw [hr9]
     obtain ⟨⟨er9, pl9⟩, k9⟩ := r9
     simp only at HL9 ⊢
     clear hr9
     go_wp2_with fail
     refine bodyPost_ret (v := .agg #[.int .i64 er9, .int .i64 pl9]) ?_ rfl ?_
     ·simp [results, Tryd.results33, go_sem, *]
     ·rw [HR9.out]
      exact ⟨v9, rfl, HL9.out.but (c := w.heap.size + 1) (((But.refl (w.heap.size + 1) _).setCell (.inl rfl) _).setCell (.inl rfl) _) (show w.heap.size ≤ w.heap.size + 1 by omega) (by omega) NR9.out⟩
   ·as_aux_lemma =>
     have H81 := Lib.hid (show ∀ dr os, (Instr.loadAt 102 (.pointer (some ⟨w.heap.size, 0, none⟩))).run Tryd.prog (Go.Sort.grow (redrawn w3 dr) os) = .ok (.agg (scells rwcell s).toArray) (Go.Sort.grow (redrawn w3 dr) os) from fun dr os => run_loadAt_mid _ w.heap.size 0 _ (scells rwcell s) _ (Img.scells (HIS.out.later (below_regrown w3 dr os) zSd)) Tryd.underlying102 rfl (rsize _))
     have k0 := cell_regrown f0; have k1 := cell_regrown f1; have k2 := cell_regrown f2; have k4 := cell_regrown f4
     have k5 := cell_regrown m0; have k6 := cell_regrown m1; have k7 := cell_regrown m2
     have ho : In64 o := HOF.out
     have cL : ∀ dr os, Calls Tryd.prog 56 #[.agg (scells rwcell s).toArray, .agg #[.int .u8 (letter (s.regs sr).kind), .int .i64 (s.regs sr).b.lo, .int .i64 (s.regs sr).b.hi], .int .i64 o] (Go.Sort.grow (redrawn w3 dr) os) fun e w'' =>
      e = .returned (.tuple #[.agg #[.int .u8 (letter (s.load (s.regs sr) o).1.kind), .int .i64 (s.load (s.regs sr) o).1.b.lo, .int .i64 (s.load (s.regs sr) o).1.b.hi], .int .i64 (s.load (s.regs sr) o).2]) ∧ ∃ p : Regrown, w'' = Go.Sort.grow (redrawn w3 p.d) p.os := fun dr os => Calls.regrown_of (RLoad_any s HS.out _ (HGd.out.later (below_regrown w3 dr os)) (s.regs sr) (HS.out.1 sr) o ho)
     have hst := rstep_load s d sr r o nn pc
     have hml := HS.out.load (HS.out.1 sr) o
     generalize s.load (s.regs sr) o = L at *
     obtain ⟨⟨lk2, ⟨ln, lc⟩⟩, le⟩ := L
     have HST := Lib.hid hst
     have HML := Lib.hid hml
     have CL := Lib.hid cL
     clear hst hml cL ho
     go_wp2_with (go_at_call 29; refine (RefAsks_any _ _).mono ?_; rintro e w' ⟨rfl, rfl⟩; rw [asks_of])
     refine wp_below_one 14 (by kernel_rfl) (by kernel_rfl) ?_
     repeat (first | (refine wpQuiet_load (by rfl) 102 _ (by rfl) ⟨w.heap.size, 0, none⟩ (by rfl) (.agg (scells rwcell s).toArray) (fun w hw => by obtain ⟨p, rfl⟩ := hw; exact H81.out _ _) ?_) | quiet_step (first | exact CL.out _ _))
     refine wpQuiet_nil ?_
     intro wq hwq
     have hbq : Below w3.heap.size w3 wq := by
      obtain ⟨p, hp⟩ := hwq
      rw [hp]; exact below_regrown _ _ _
     clear hwq
     clear k0 k1 k2 k4 k5 k6 k7 f0 f1 f2 f3 f4 f5 x0 x1 x2 m0 m1 m2 y0 y1 y2 H81 CL
     have HIQ := Lib.hid (HIS.out.later hbq zSd)
     have HFQ := Lib.hid (HIF.out.later hbq zFd)
     have HLQ := Lib.hid (HLd.out.later hbq)
     obtain ⟨u0, q0⟩ : ∃ u, wq.cell? ⟨w.heap.size, d * 3, none⟩ = some u := ⟨_, HIQ.out.cell (d * 3) (by omega)⟩
     obtain ⟨u1, q1⟩ : ∃ u, wq.cell? ⟨w.heap.size, d * 3 + 1, none⟩ = some u := ⟨_, HIQ.out.cell (d * 3 + 1) (by omega)⟩
     obtain ⟨u2, q2⟩ : ∃ u, wq.cell? ⟨w.heap.size, d * 3 + 2, none⟩ = some u := ⟨_, HIQ.out.cell (d * 3 + 2) (by omega)⟩
     have p0 := HIQ.out.free (d * 3) (by omega); have p1 := HIQ.out.free (d * 3 + 1) (by omega); have p2 := HIQ.out.free (d * 3 + 2) (by omega)
     clear hbq
     go_wp2_with fail
     refine NoPanic.normal ?_
     go_wp2_with fail
     go_meet
     go_light
     refine ⟨le, pc + 1, { s with regs := upd s.regs d ⟨lk2, ⟨ln, lc⟩⟩ }, rfl, by go_num, ?_, ?_, ?_⟩
     ·exact HLQ.out.but (c := w.heap.size) ((((But.refl w.heap.size _).setCell (.inl rfl) _).setCell (.inl rfl) _).setCell (.inl rfl) _) (Nat.le_refl _) (by omega) HNS.out
     ·exact ((((But.refl w.heap.size _).setCell (.inl rfl) _).setCell (.inl rfl) _).setCell (.inl rfl) _).img HFQ.out (by omega) (by omega)
     ·exact RStepTo.pair HST.out rfl (by omega) (HS.out.setReg' d HML.out) (rimg_reg HIQ.out dN ⟨lk2, ⟨ln, lc⟩⟩)
   ·as_aux_lemma =>
     have hst := rstep_store s d sr r o nn pc
     have hx := HSEC.out
     have hml := HS.out.store (s.regs d) o hx
     have hkd := HS.out.1 d
     generalize hy : s.second ⟨26, d, sr, r, o, nn⟩ = y at *
     generalize hxd : s.regs d = x at *
     have HST := Lib.hid hst
     have HML := Lib.hid hml
     have HKD := Lib.hid hkd
     have okx : KOk x.kind := hkd.1
     have oky : KOk y.kind := hx.1
     clear hst hml hkd hy hxd hx m0 m1 m2
     go_wp2_with (first | (go_at_call 29; refine (RefAsks_any _ _).mono ?_; rintro e w' ⟨rfl, rfl⟩; rw [asks_of]))
     refine (RFar_any x o HKD.out HOF.out _ (HGd.out.later ?_)).mono ?_
     ·exact ((Below.refl _ _).alloc (Nat.le_refl _) _).alloc (by simp) _
     rintro e w4 ⟨rfl, hb4⟩
     have zA : w3.heap.size < w4.heap.size := by have := hb4.size; simp at this; omega
     have zA1 : w3.heap.size + 1 < w4.heap.size := by have := hb4.size; simp at this; omega
     have IX4 : P.Img w4 w3.heap.size 3 (rwcell x) := ((rwimg_at (heap_alloc_new w3 _)).alloc _).later hb4 (by simp; omega)
     have I24 : P.Img w4 (w3.heap.size + 1) 2 (fun _ => .int .i64 0) := (Img.zero2 (by simpa using heap_alloc_new (World.alloc w3 _) _)).later hb4 (by simp)
     have hbb : Below w3.heap.size w3 w4 := (((Below.refl _ _).alloc (Nat.le_refl _) _).alloc (by simp) _).trans (hb4.mono (by simp; omega))
     have HIY4 := Lib.hid (HIY.out.later hbb (by omega))
     have HIT4 := Lib.hid (HIT.out.later hbb (by omega))
     have HIS4 := Lib.hid (HIS.out.later hbb (by omega))
     have HIF4 := Lib.hid (HIF.out.later hbb (by omega))
     have HL4 := Lib.hid (HLd.out.later hbb)
     have b0 := I24.cell 0 (by omega); have b1 := I24.cell 1 (by omega)
     have bf0 := I24.free 0 (by omega); have bf1 := I24.free 1 (by omega)
     obtain ⟨x0', x1', x2'⟩ := rwcells IX4
     obtain ⟨y0', y1', y2'⟩ := rwcells HIY4.out
     clear hb4 hbb f0 f1 f2 f3 f4 f5 x0 x1 x2 y0 y1 y2 HIY HIT HIS HIF HLd HGd IX4 I24
     have hlh := vfar_ok HKD.out HOF.out
     have hat := vfar_at HKD.out (o := o)
     have hki := vfar_kind HKD.out (o := o)
     have hst := HST.out
     have hml := HML.out
     unfold rfar
     obtain ⟨⟨⟨L, H⟩, er⟩, hv⟩ : ∃ V, vfar x o = V := ⟨_, rfl⟩
     rw [hv] at hlh hat hki ⊢
     clear HST HML
     have pn : pc + 1 < n := by omega
     have nA : v.ownBlock ≠ some (w3.heap.size + 1) := row_lt HL.out (by omega)
     have HNA := Lib.hid nA
     have HLT : Hid (L ≤ H) := hlh.2.2
     clear nA hlh
     simp only at hat hki ⊢
     by_cases he : er = 0
     ·subst he
      have h1 := hat rfl
      have h2 := hki rfl
      have HB16 := Lib.hid h1.2
      clear hat hki h1
      simp only [if_true]
      by_cases k2 : x.kind = 2
      ·rw [rstore_t hv k2] at hst hml
       have HST := Lib.hid hst
       have t1 := rbeq_yes ((letter_2 okx).2 k2)
       clear hv k2 h2 hst hml okx oky
       go_wp2_with fail
       go_meet
       go_light
       refine ⟨6, pc + 1, s, rfl, by go_num, ?_, ?_, ?_⟩
       ·exact HL4.out.but (c := w3.heap.size + 1) (((But.refl (w3.heap.size + 1) w4).setCell (.inl rfl) _).setCell (.inl rfl) _) (by omega) (by omega) HNA.out
       ·exact (((But.refl (w3.heap.size + 1) w4).setCell (.inl rfl) _).setCell (.inl rfl) _).img HIF4.out (by omega) (by omega)
       ·exact RStepTo.pair HST.out rfl pn HS.out ((((But.refl (w3.heap.size + 1) w4).setCell (.inl rfl) _).setCell (.inl rfl) _).img HIS4.out (by omega) (by omega))
      ·have t1 := rbeq_no (fun h => k2 ((letter_2 okx).1 h))
       by_cases y0 : y.kind = 0
       ·rw [rstore_none hv k2 y0] at hst hml
        have HST := Lib.hid hst
        have t2 := rbeq_yes ((letter_0 oky).2 y0)
        clear hv k2 h2 hst hml okx oky y0
        go_wp2_with fail
        go_meet
        go_light
        refine ⟨8, pc + 1, s, rfl, by go_num, ?_, ?_, ?_⟩
        ·exact HL4.out.but (c := w3.heap.size + 1) (((But.refl (w3.heap.size + 1) w4).setCell (.inl rfl) _).setCell (.inl rfl) _) (by omega) (by omega) HNA.out
        ·exact (((But.refl (w3.heap.size + 1) w4).setCell (.inl rfl) _).setCell (.inl rfl) _).img HIF4.out (by omega) (by omega)
        ·exact RStepTo.pair HST.out rfl pn HS.out ((((But.refl (w3.heap.size + 1) w4).setCell (.inl rfl) _).setCell (.inl rfl) _).img HIS4.out (by omega) (by omega))
       ·have t2 := rbeq_no (fun h => y0 ((letter_0 oky).1 h))
        by_cases k4 : x.kind = 4
        ·have t3 := rbeq_yes ((letter_4 okx).2 k4)
         by_cases y1 : y.kind = 1
         ·rw [rstore_c0 hv y0 k4 y1] at hst hml
          have HST := Lib.hid hst
          have t4 : (letter y.kind != 110) = false := by rw [(letter_1 oky).2 y1]; rfl
          have t5 := rbeq_no (show letter x.kind ≠ 102 from fun h => by have := (letter_3 okx).1 h; omega)
          clear hv k2 h2 hst hml okx oky y0 y1 k4
          go_wp2_with fail
          go_meet
          go_light
          refine ⟨0, pc + 1, s, rfl, by go_num, ?_, ?_, ?_⟩
          ·exact HL4.out.but (c := w3.heap.size + 1) (((But.refl (w3.heap.size + 1) w4).setCell (.inl rfl) _).setCell (.inl rfl) _) (by omega) (by omega) HNA.out
          ·exact (((But.refl (w3.heap.size + 1) w4).setCell (.inl rfl) _).setCell (.inl rfl) _).img HIF4.out (by omega) (by omega)
          ·exact RStepTo.pair HST.out rfl pn HS.out ((((But.refl (w3.heap.size + 1) w4).setCell (.inl rfl) _).setCell (.inl rfl) _).img HIS4.out (by omega) (by omega))
         ·rw [rstore_c1 hv y0 k4 y1] at hst hml
          have HST := Lib.hid hst
          have t4 := rbne_yes (fun h => y1 ((letter_1 oky).1 h))
          clear hv k2 h2 hst hml okx oky y0 y1 k4
          go_wp2_with fail
          go_meet
          go_light
          refine ⟨1, pc + 1, s, rfl, by go_num, ?_, ?_, ?_⟩
          ·exact HL4.out.but (c := w3.heap.size + 1) (((But.refl (w3.heap.size + 1) w4).setCell (.inl rfl) _).setCell (.inl rfl) _) (by omega) (by omega) HNA.out
          ·exact (((But.refl (w3.heap.size + 1) w4).setCell (.inl rfl) _).setCell (.inl rfl) _).img HIF4.out (by omega) (by omega)
          ·exact RStepTo.pair HST.out rfl pn HS.out ((((But.refl (w3.heap.size + 1) w4).setCell (.inl rfl) _).setCell (.inl rfl) _).img HIS4.out (by omega) (by omega))
        ·have t3 := rbeq_no (fun h => k4 ((letter_4 okx).1 h))
         have k3 : x.kind = 3 := by omega
         have t5 := rbeq_yes ((letter_3 okx).2 k3)
         by_cases hLH : L = H
         ·rw [rstore_put hv k2 y0 k4 hLH] at hst hml
          have t6 : (L != H) = false := by rw [hLH]; simp
          have hlo := HB16.out.1
          have hhi := HB16.out.2
          rw [k3] at hlo hhi
          simp only [low, high, if_true, show ¬ (3 : Int) = 2 by decide, show ¬ (3 : Int) = 4 by decide, if_false] at hlo hhi
          obtain ⟨q, hq⟩ := Int.eq_ofNat_of_zero_le (show 0 ≤ L + 16 by omega)
          have eq1 : (L + 16).toNat = q := by omega
          rw [eq1] at hst hml
          have HST := Lib.hid hst
          have HML := Lib.hid hml
          have hq16 : q < 16 := by omega
          obtain ⟨j, hj⟩ : ∃ j, j = 11 + q := ⟨_, rfl⟩
          have e27 : 27 + L = (j : Int) := by omega
          have s27' : IntKind.i64.wrap (27 + L) = (j : Int) := by rw [e27]; exact IntWalk.i64_in _ (by omega)
          have j27 : (j : Int) < 27 := by omega
          have j0 : 0 ≤ 27 + L := by omega
          have HJ := Lib.hid hj
          obtain ⟨u0, q0⟩ : ∃ u, w4.cell? ⟨w.heap.size, j * 3, none⟩ = some u := ⟨_, HIS4.out.cell (j * 3) (by omega)⟩
          obtain ⟨u1, q1⟩ : ∃ u, w4.cell? ⟨w.heap.size, j * 3 + 1, none⟩ = some u := ⟨_, HIS4.out.cell (j * 3 + 1) (by omega)⟩
          obtain ⟨u2, q2⟩ : ∃ u, w4.cell? ⟨w.heap.size, j * 3 + 2, none⟩ = some u := ⟨_, HIS4.out.cell (j * 3 + 2) (by omega)⟩
          have p0 := HIS4.out.free (j * 3) (by omega); have p1 := HIS4.out.free (j * 3 + 1) (by omega); have p2 := HIS4.out.free (j * 3 + 2) (by omega)
          have nB1 : ¬ w.heap.size = w3.heap.size + 1 := by omega
          have nB2 : ¬ w3.heap.size + 1 = w.heap.size := by omega
          have nY1 : ¬ Y = w3.heap.size + 1 := by omega
          have nY2 : ¬ Y = w.heap.size := by omega
          clear hv k2 h2 hst hml okx oky y0 k4 k3 hLH hlo hhi hq eq1 hj e27
          go_wp2_with fail
          go_meet
          go_light
          have BU := ((But.refl (w3.heap.size + 1) w4).setCell (p := ⟨w3.heap.size + 1, 0, none⟩) (.inl rfl) (.int .i64 L)).setCell (p := ⟨w3.heap.size + 1, 1, none⟩) (.inl rfl) (.int .i64 H)
          have BV := fun (z : World) (a1 a2 a3 : Value) => (((But.refl w.heap.size z).setCell (p := ⟨w.heap.size, j * 3, none⟩) (.inl rfl) a1).setCell (p := ⟨w.heap.size, j * 3 + 1, none⟩) (.inl rfl) a2).setCell (p := ⟨w.heap.size, j * 3 + 2, none⟩) (.inl rfl) a3
          refine ⟨0, pc + 1, { s with slots := upd s.slots q y }, rfl, by go_num, ?_, ?_, ?_⟩
          ·exact (HL4.out.but BU (by omega) (by omega) HNA.out).but (BV _ _ _ _) (Nat.le_refl _) (by omega) HNS.out
          ·exact (BV _ _ _ _).img (BU.img HIF4.out (by omega) (by omega)) (by omega) (by omega)
          ·exact RStepTo.pair HST.out rfl pn HML.out (rimg_slot (BU.img HIS4.out (by omega) (by omega)) hq16 HJ.out y)
         ·rw [rstore_range hv k2 y0 k4 hLH] at hst hml
          have HST := Lib.hid hst
          have t6 := rbne_yes hLH
          clear hv k2 h2 hst hml okx oky y0 k4 k3 hLH
          go_wp2_with fail
          go_meet
          go_light
          refine ⟨2, pc + 1, s, rfl, by go_num, ?_, ?_, ?_⟩
          ·exact HL4.out.but (c := w3.heap.size + 1) (((But.refl (w3.heap.size + 1) w4).setCell (.inl rfl) _).setCell (.inl rfl) _) (by omega) (by omega) HNA.out
          ·exact (((But.refl (w3.heap.size + 1) w4).setCell (.inl rfl) _).setCell (.inl rfl) _).img HIF4.out (by omega) (by omega)
          ·exact RStepTo.pair HST.out rfl pn HS.out ((((But.refl (w3.heap.size + 1) w4).setCell (.inl rfl) _).setCell (.inl rfl) _).img HIS4.out (by omega) (by omega))
     ·rw [rstore_er hv he] at hst hml
      have HST := Lib.hid hst
      have HE := Lib.hid he
      have t0 := rbeq_no he
      rw [if_neg he]
      clear hv hat hki hst hml he okx oky
      go_wp2_with fail
      go_meet
      go_light
      refine ⟨er, pc + 1, s, rfl, by go_num, ?_, ?_, ?_⟩
      ·exact HL4.out.but (c := w3.heap.size + 1) (((But.refl (w3.heap.size + 1) w4).setCell (.inl rfl) _).setCell (.inl rfl) _) (by omega) (by omega) HNA.out
      ·exact (((But.refl (w3.heap.size + 1) w4).setCell (.inl rfl) _).setCell (.inl rfl) _).img HIF4.out (by omega) (by omega)
      ·exact RStepTo.pair HST.out rfl pn HS.out ((((But.refl (w3.heap.size + 1) w4).setCell (.inl rfl) _).setCell (.inl rfl) _).img HIS4.out (by omega) (by omega))
   ·as_aux_lemma =>
     have hnn : nn = 1 ∨ nn = 2 ∨ nn = 3 := by have := call_num HNB.out rfl; omega
     have pn : pc + 1 < n := by omega
     have ok1 : KOk (s.regs 1).kind := (HS.out.1 1).1
     obtain ⟨u0, z0⟩ : ∃ u, w3.cell? ⟨w.heap.size, 0, none⟩ = some u := ⟨_, HIS.out.cell 0 (by omega)⟩
     obtain ⟨u1, z1⟩ : ∃ u, w3.cell? ⟨w.heap.size, 1, none⟩ = some u := ⟨_, HIS.out.cell 1 (by omega)⟩
     obtain ⟨u2, z2⟩ : ∃ u, w3.cell? ⟨w.heap.size, 2, none⟩ = some u := ⟨_, HIS.out.cell 2 (by omega)⟩
     have p0 := HIS.out.free 0 (by omega); have p1 := HIS.out.free 1 (by omega); have p2 := HIS.out.free 2 (by omega)
     have q0 : w3.cell? ⟨w.heap.size, 3, none⟩ = some (.int .u8 (letter (s.regs 1).kind)) := (rrcells HIS.out (by omega : 1 < 11)).1
     have ga0 := HGd.out.1; have ga1 := HGd.out.2
     have gz3 := block_lt_of_cell ga0
     clear x0 x1 x2 m0 m1 m2 y0 y1 y2
     rcases hnn with rfl | rfl | rfl
     ·by_cases k1 : (s.regs 1).kind = 1
      ·as_aux_lemma =>
        have t4 : (letter (s.regs 1).kind != 110) = false := by rw [(letter_1 ok1).2 k1]; rfl
        have HST := Lib.hid (show s.step ⟨27, d, sr, r, o, 1⟩ pc = .go (some (rcall s 1, (pc : Int) + 1)) none from by rw [rstep_call, rcall_ok (.inr k1)]; simp)
        have HML := Lib.hid (show VSOk (rcall s 1) from by have := HS.out.call 1; rw [rcall_ok (.inr k1)] at this; exact this)
        clear k1 ok1
        generalize letter (s.regs 1).kind = lk1 at *
        go_wp2_with (first | (go_at_call 29; refine (RefAsks_any _ _).mono ?_; rintro e w' ⟨rfl, rfl⟩; rw [asks_of]))
        generalize hW : World.setCell (World.setCell (World.setCell w3 _ _) _ _) _ _ = wx
        have KX : P.Img wx w.heap.size 81 (simg rwcell { s with regs := upd s.regs 0 (.num ball) }) := by
         rw [← hW]; exact rimg_reg HIS.out (by omega : 0 < 11) (.num ball)
        have BX : But w.heap.size w3 wx := hW ▸ (((But.refl w.heap.size w3).setCell (.inl rfl) _).setCell (.inl rfl) _).setCell (.inl rfl) _
        clear hW
        have HKX := Lib.hid KX
        have HBX := Lib.hid BX
        clear KX BX z0 z1 z2 p0 p1 p2 q0
        refine (RefOne_any 0 _).mono ?_
        rintro e wo ⟨rfl, hbo⟩
        have zx : w.heap.size < wx.heap.size := HKX.out.lt (by omega)
        have IO := HKX.out.later hbo zx
        have HBO := Lib.hid (HBX.out.trans (But.of hbo))
        obtain ⟨u0, z0⟩ : ∃ u, wo.cell? ⟨w.heap.size, 0, none⟩ = some u := ⟨_, IO.cell 0 (by omega)⟩
        obtain ⟨u1, z1⟩ : ∃ u, wo.cell? ⟨w.heap.size, 1, none⟩ = some u := ⟨_, IO.cell 1 (by omega)⟩
        obtain ⟨u2, z2⟩ : ∃ u, wo.cell? ⟨w.heap.size, 2, none⟩ = some u := ⟨_, IO.cell 2 (by omega)⟩
        have p0 := IO.free 0 (by omega); have p1 := IO.free 1 (by omega); have p2 := IO.free 2 (by omega)
        have HIO := Lib.hid IO
        have zo2 : w.heap.size < wo.heap.size := IO.lt (by omega)
        clear IO hbo zx HKX HBX
        go_wp2_with fail
        generalize hW : World.setCell (World.setCell (World.setCell wo _ _) _ _) _ _ = wy
        have KX : P.Img wy w.heap.size 81 (simg rwcell { s with regs := upd s.regs 0 (⟨5, bone 0⟩) }) := by
         rw [← hW]
         have K := rimg_reg HIO.out (by omega : 0 < 11) (⟨5, bone 0⟩)
         dsimp only at K
         rw [rupd_upd] at K
         exact K
        have BX : But w.heap.size w3 wy := hW ▸ ((HBO.out.setCell (.inl rfl) _).setCell (.inl rfl) _).setCell (.inl rfl) _
        clear hW
        have HKX := Lib.hid KX
        have HBX := Lib.hid BX
        clear KX BX z0 z1 z2 p0 p1 p2 HIO HBO zo2
        go_loopw [14] (fun i wr => ∃ k : Nat, 1 ≤ k ∧ k ≤ 6 ∧ i = .int .i64 k ∧ P.Img wr w.heap.size 81 (simg rwcell { s with regs := rclr (upd s.regs 0 (⟨5, bone 0⟩)) k }) ∧ But w.heap.size w3 wr) (fun i _ => 6 - (intOf i).toNat)
        case atStart => exact ⟨1, by omega, by omega, rfl, by rw [rclr_1]; exact HKX.out, HBX.out⟩
        case round =>
         obtain ⟨k, hk1, hk6, rfl, hI, hB⟩ := hrel
         by_cases h : k ≤ 5
         ·have i1 : (k : Int) ≤ 5 := by omega
          have i2 : (k : Int) < 11 := by omega
          have i3 : (k : Int) < 27 := by omega
          obtain ⟨u0, z0⟩ : ∃ u, wr.cell? ⟨w.heap.size, k * 3, none⟩ = some u := ⟨_, hI.cell (k * 3) (by omega)⟩
          obtain ⟨u1, z1⟩ : ∃ u, wr.cell? ⟨w.heap.size, k * 3 + 1, none⟩ = some u := ⟨_, hI.cell (k * 3 + 1) (by omega)⟩
          obtain ⟨u2, z2⟩ : ∃ u, wr.cell? ⟨w.heap.size, k * 3 + 2, none⟩ = some u := ⟨_, hI.cell (k * 3 + 2) (by omega)⟩
          have p0 := hI.free (k * 3) (by omega); have p1 := hI.free (k * 3 + 1) (by omega); have p2 := hI.free (k * 3 + 2) (by omega)
          have HI1 := Lib.hid hI
          have HB1 := Lib.hid hB
          clear hI hB
          go_wp2_with fail
          go_roundw
          case rel =>
           go_light
           refine ⟨k + 1, by omega, by omega, by go_num, ?_, ?_⟩
           ·have K := rimg_reg HI1.out (by omega : k < 11) Wh.nil
            dsimp only at K
            rw [rclr_succ _ hk1] at K
            exact K
           ·exact ((HB1.out.setCell (.inl rfl) _).setCell (.inl rfl) _).setCell (.inl rfl) _
          case measure => simp [intOf]; omega
         ·obtain rfl : k = 6 := by omega
          have HI1 := Lib.hid hI
          have HB1 := Lib.hid hB
          clear hI hB
          go_wp2_with fail
          go_meet
          go_light
          refine ⟨0, pc + 1, rcall s 1, rfl, by go_num, ?_, ?_, ?_⟩
          ·exact HLd.out.but (c := w.heap.size) HB1.out (Nat.le_refl _) (by omega) HNS.out
          ·exact HB1.out.img HIF.out (by omega) (by omega)
          ·exact .inl ⟨rfl, by omega, pn, HML.out, HI1.out, by rw [HST.out]; push_cast; rfl⟩
      ·by_cases k0 : (s.regs 1).kind = 0
       ·as_aux_lemma =>
         have t4 : (letter (s.regs 1).kind != 110) = true := rbne_yes (fun h => k1 ((letter_1 ok1).1 h))
         have t5 : (letter (s.regs 1).kind == 0) = true := rbeq_yes ((letter_0 ok1).2 k0)
         have HST := Lib.hid (show s.step ⟨27, d, sr, r, o, 1⟩ pc = .err 8 from by rw [rstep_call, rcall_err (by decide) k1, if_pos k0]; rfl)
         clear k1 ok1 k0
         generalize letter (s.regs 1).kind = lk1 at *
         go_wp2_with (first | (go_at_call 29; refine (RefAsks_any _ _).mono ?_; rintro e w' ⟨rfl, rfl⟩; rw [asks_of]))
         generalize hW : World.setCell (World.setCell (World.setCell w3 _ _) _ _) _ _ = wx
         have KX : P.Img wx w.heap.size 81 (simg rwcell { s with regs := upd s.regs 0 (.num ball) }) := by
          rw [← hW]; exact rimg_reg HIS.out (by omega : 0 < 11) (.num ball)
         have BX : But w.heap.size w3 wx := hW ▸ (((But.refl w.heap.size w3).setCell (.inl rfl) _).setCell (.inl rfl) _).setCell (.inl rfl) _
         clear hW
         have HKX := Lib.hid KX
         have HBX := Lib.hid BX
         clear KX BX z0 z1 z2 p0 p1 p2 q0
         refine (RefOne_any 0 _).mono ?_
         rintro e wo ⟨rfl, hbo⟩
         have zx : w.heap.size < wx.heap.size := HKX.out.lt (by omega)
         have IO := HKX.out.later hbo zx
         have HBO := Lib.hid (HBX.out.trans (But.of hbo))
         obtain ⟨u0, z0⟩ : ∃ u, wo.cell? ⟨w.heap.size, 0, none⟩ = some u := ⟨_, IO.cell 0 (by omega)⟩
         obtain ⟨u1, z1⟩ : ∃ u, wo.cell? ⟨w.heap.size, 1, none⟩ = some u := ⟨_, IO.cell 1 (by omega)⟩
         obtain ⟨u2, z2⟩ : ∃ u, wo.cell? ⟨w.heap.size, 2, none⟩ = some u := ⟨_, IO.cell 2 (by omega)⟩
         have p0 := IO.free 0 (by omega); have p1 := IO.free 1 (by omega); have p2 := IO.free 2 (by omega)
         have HIO := Lib.hid IO
         have zo2 : w.heap.size < wo.heap.size := IO.lt (by omega)
         clear IO hbo zx HKX HBX
         go_wp2_with fail
         generalize hW : World.setCell (World.setCell (World.setCell wo _ _) _ _) _ _ = wy
         have KX : P.Img wy w.heap.size 81 (simg rwcell { s with regs := upd s.regs 0 (⟨5, bone 0⟩) }) := by
          rw [← hW]
          have K := rimg_reg HIO.out (by omega : 0 < 11) (⟨5, bone 0⟩)
          dsimp only at K
          rw [rupd_upd] at K
          exact K
         have BX : But w.heap.size w3 wy := hW ▸ ((HBO.out.setCell (.inl rfl) _).setCell (.inl rfl) _).setCell (.inl rfl) _
         clear hW
         have HKX := Lib.hid KX
         have HBX := Lib.hid BX
         clear KX BX z0 z1 z2 p0 p1 p2 HIO HBO zo2
         go_loopw [14] (fun i wr => ∃ k : Nat, 1 ≤ k ∧ k ≤ 6 ∧ i = .int .i64 k ∧ P.Img wr w.heap.size 81 (simg rwcell { s with regs := rclr (upd s.regs 0 (⟨5, bone 0⟩)) k }) ∧ But w.heap.size w3 wr) (fun i _ => 6 - (intOf i).toNat)
         case atStart => exact ⟨1, by omega, by omega, rfl, by rw [rclr_1]; exact HKX.out, HBX.out⟩
         case round =>
          obtain ⟨k, hk1, hk6, rfl, hI, hB⟩ := hrel
          by_cases h : k ≤ 5
          ·have i1 : (k : Int) ≤ 5 := by omega
           have i2 : (k : Int) < 11 := by omega
           have i3 : (k : Int) < 27 := by omega
           obtain ⟨u0, z0⟩ : ∃ u, wr.cell? ⟨w.heap.size, k * 3, none⟩ = some u := ⟨_, hI.cell (k * 3) (by omega)⟩
           obtain ⟨u1, z1⟩ : ∃ u, wr.cell? ⟨w.heap.size, k * 3 + 1, none⟩ = some u := ⟨_, hI.cell (k * 3 + 1) (by omega)⟩
           obtain ⟨u2, z2⟩ : ∃ u, wr.cell? ⟨w.heap.size, k * 3 + 2, none⟩ = some u := ⟨_, hI.cell (k * 3 + 2) (by omega)⟩
           have p0 := hI.free (k * 3) (by omega); have p1 := hI.free (k * 3 + 1) (by omega); have p2 := hI.free (k * 3 + 2) (by omega)
           have HI1 := Lib.hid hI
           have HB1 := Lib.hid hB
           clear hI hB
           go_wp2_with fail
           go_roundw
           case rel =>
            go_light
            refine ⟨k + 1, by omega, by omega, by go_num, ?_, ?_⟩
            ·have K := rimg_reg HI1.out (by omega : k < 11) Wh.nil
             dsimp only at K
             rw [rclr_succ _ hk1] at K
             exact K
            ·exact ((HB1.out.setCell (.inl rfl) _).setCell (.inl rfl) _).setCell (.inl rfl) _
           case measure => simp [intOf]; omega
          ·obtain rfl : k = 6 := by omega
           have HI1 := Lib.hid hI
           have HB1 := Lib.hid hB
           clear hI hB
           go_wp2_with fail
           go_meet
           go_light
           refine ⟨8, pc + 1, rcall s 1, rfl, by go_num, ?_, ?_, ?_⟩
           ·exact HLd.out.but (c := w.heap.size) HB1.out (Nat.le_refl _) (by omega) HNS.out
           ·exact HB1.out.img HIF.out (by omega) (by omega)
           ·exact .inr ⟨by decide, HST.out⟩
       ·as_aux_lemma =>
         have t4 : (letter (s.regs 1).kind != 110) = true := rbne_yes (fun h => k1 ((letter_1 ok1).1 h))
         have t5 : (letter (s.regs 1).kind == 0) = false := rbeq_no (fun h => k0 ((letter_0 ok1).1 h))
         have HST := Lib.hid (show s.step ⟨27, d, sr, r, o, 1⟩ pc = .err 1 from by rw [rstep_call, rcall_err (by decide) k1, if_neg k0]; rfl)
         clear k1 ok1 k0
         generalize letter (s.regs 1).kind = lk1 at *
         go_wp2_with (first | (go_at_call 29; refine (RefAsks_any _ _).mono ?_; rintro e w' ⟨rfl, rfl⟩; rw [asks_of]))
         generalize hW : World.setCell (World.setCell (World.setCell w3 _ _) _ _) _ _ = wx
         have KX : P.Img wx w.heap.size 81 (simg rwcell { s with regs := upd s.regs 0 (.num ball) }) := by
          rw [← hW]; exact rimg_reg HIS.out (by omega : 0 < 11) (.num ball)
         have BX : But w.heap.size w3 wx := hW ▸ (((But.refl w.heap.size w3).setCell (.inl rfl) _).setCell (.inl rfl) _).setCell (.inl rfl) _
         clear hW
         have HKX := Lib.hid KX
         have HBX := Lib.hid BX
         clear KX BX z0 z1 z2 p0 p1 p2 q0
         refine (RefOne_any 0 _).mono ?_
         rintro e wo ⟨rfl, hbo⟩
         have zx : w.heap.size < wx.heap.size := HKX.out.lt (by omega)
         have IO := HKX.out.later hbo zx
         have HBO := Lib.hid (HBX.out.trans (But.of hbo))
         obtain ⟨u0, z0⟩ : ∃ u, wo.cell? ⟨w.heap.size, 0, none⟩ = some u := ⟨_, IO.cell 0 (by omega)⟩
         obtain ⟨u1, z1⟩ : ∃ u, wo.cell? ⟨w.heap.size, 1, none⟩ = some u := ⟨_, IO.cell 1 (by omega)⟩
         obtain ⟨u2, z2⟩ : ∃ u, wo.cell? ⟨w.heap.size, 2, none⟩ = some u := ⟨_, IO.cell 2 (by omega)⟩
         have p0 := IO.free 0 (by omega); have p1 := IO.free 1 (by omega); have p2 := IO.free 2 (by omega)
         have HIO := Lib.hid IO
         have zo2 : w.heap.size < wo.heap.size := IO.lt (by omega)
         clear IO hbo zx HKX HBX
         go_wp2_with fail
         generalize hW : World.setCell (World.setCell (World.setCell wo _ _) _ _) _ _ = wy
         have KX : P.Img wy w.heap.size 81 (simg rwcell { s with regs := upd s.regs 0 (⟨5, bone 0⟩) }) := by
          rw [← hW]
          have K := rimg_reg HIO.out (by omega : 0 < 11) (⟨5, bone 0⟩)
          dsimp only at K
          rw [rupd_upd] at K
          exact K
         have BX : But w.heap.size w3 wy := hW ▸ ((HBO.out.setCell (.inl rfl) _).setCell (.inl rfl) _).setCell (.inl rfl) _
         clear hW
         have HKX := Lib.hid KX
         have HBX := Lib.hid BX
         clear KX BX z0 z1 z2 p0 p1 p2 HIO HBO zo2
         go_loopw [14] (fun i wr => ∃ k : Nat, 1 ≤ k ∧ k ≤ 6 ∧ i = .int .i64 k ∧ P.Img wr w.heap.size 81 (simg rwcell { s with regs := rclr (upd s.regs 0 (⟨5, bone 0⟩)) k }) ∧ But w.heap.size w3 wr) (fun i _ => 6 - (intOf i).toNat)
         case atStart => exact ⟨1, by omega, by omega, rfl, by rw [rclr_1]; exact HKX.out, HBX.out⟩
         case round =>
          obtain ⟨k, hk1, hk6, rfl, hI, hB⟩ := hrel
          by_cases h : k ≤ 5
          ·have i1 : (k : Int) ≤ 5 := by omega
           have i2 : (k : Int) < 11 := by omega
           have i3 : (k : Int) < 27 := by omega
           obtain ⟨u0, z0⟩ : ∃ u, wr.cell? ⟨w.heap.size, k * 3, none⟩ = some u := ⟨_, hI.cell (k * 3) (by omega)⟩
           obtain ⟨u1, z1⟩ : ∃ u, wr.cell? ⟨w.heap.size, k * 3 + 1, none⟩ = some u := ⟨_, hI.cell (k * 3 + 1) (by omega)⟩
           obtain ⟨u2, z2⟩ : ∃ u, wr.cell? ⟨w.heap.size, k * 3 + 2, none⟩ = some u := ⟨_, hI.cell (k * 3 + 2) (by omega)⟩
           have p0 := hI.free (k * 3) (by omega); have p1 := hI.free (k * 3 + 1) (by omega); have p2 := hI.free (k * 3 + 2) (by omega)
           have HI1 := Lib.hid hI
           have HB1 := Lib.hid hB
           clear hI hB
           go_wp2_with fail
           go_roundw
           case rel =>
            go_light
            refine ⟨k + 1, by omega, by omega, by go_num, ?_, ?_⟩
            ·have K := rimg_reg HI1.out (by omega : k < 11) Wh.nil
             dsimp only at K
             rw [rclr_succ _ hk1] at K
             exact K
            ·exact ((HB1.out.setCell (.inl rfl) _).setCell (.inl rfl) _).setCell (.inl rfl) _
           case measure => simp [intOf]; omega
          ·obtain rfl : k = 6 := by omega
           have HI1 := Lib.hid hI
           have HB1 := Lib.hid hB
           clear hI hB
           go_wp2_with fail
           go_meet
           go_light
           refine ⟨1, pc + 1, rcall s 1, rfl, by go_num, ?_, ?_, ?_⟩
           ·exact HLd.out.but (c := w.heap.size) HB1.out (Nat.le_refl _) (by omega) HNS.out
           ·exact HB1.out.img HIF.out (by omega) (by omega)
           ·exact .inr ⟨by decide, HST.out⟩
     ·as_aux_lemma =>
       have HST := Lib.hid (show s.step ⟨27, d, sr, r, o, 2⟩ pc = .go (some (rcall s 2, (pc : Int) + 1)) none from by rw [rstep_call, rcall_ok (.inl rfl)]; simp)
       have HML := Lib.hid (show VSOk (rcall s 2) from by have := HS.out.call 2; rw [rcall_ok (.inl rfl)] at this; exact this)
       generalize letter (s.regs 1).kind = lk1 at *
       go_wp2_with (first | (go_at_call 29; refine (RefAsks_any _ _).mono ?_; rintro e w' ⟨rfl, rfl⟩; rw [asks_of]))
       generalize hW : World.setCell (World.setCell (World.setCell w3 _ _) _ _) _ _ = wx
       have KX : P.Img wx w.heap.size 81 (simg rwcell { s with regs := upd s.regs 0 (.num ball) }) := by
        rw [← hW]; exact rimg_reg HIS.out (by omega : 0 < 11) (.num ball)
       have BX : But w.heap.size w3 wx := hW ▸ (((But.refl w.heap.size w3).setCell (.inl rfl) _).setCell (.inl rfl) _).setCell (.inl rfl) _
       clear hW
       have HKX := Lib.hid KX
       have HBX := Lib.hid BX
       clear KX BX z0 z1 z2 p0 p1 p2 q0
       go_loopw [14] (fun i wr => ∃ k : Nat, 1 ≤ k ∧ k ≤ 6 ∧ i = .int .i64 k ∧ P.Img wr w.heap.size 81 (simg rwcell { s with regs := rclr (upd s.regs 0 (.num ball)) k }) ∧ But w.heap.size w3 wr) (fun i _ => 6 - (intOf i).toNat)
       case atStart => exact ⟨1, by omega, by omega, rfl, by rw [rclr_1]; exact HKX.out, HBX.out⟩
       case round =>
        obtain ⟨k, hk1, hk6, rfl, hI, hB⟩ := hrel
        by_cases h : k ≤ 5
        ·have i1 : (k : Int) ≤ 5 := by omega
         have i2 : (k : Int) < 11 := by omega
         have i3 : (k : Int) < 27 := by omega
         obtain ⟨u0, z0⟩ : ∃ u, wr.cell? ⟨w.heap.size, k * 3, none⟩ = some u := ⟨_, hI.cell (k * 3) (by omega)⟩
         obtain ⟨u1, z1⟩ : ∃ u, wr.cell? ⟨w.heap.size, k * 3 + 1, none⟩ = some u := ⟨_, hI.cell (k * 3 + 1) (by omega)⟩
         obtain ⟨u2, z2⟩ : ∃ u, wr.cell? ⟨w.heap.size, k * 3 + 2, none⟩ = some u := ⟨_, hI.cell (k * 3 + 2) (by omega)⟩
         have p0 := hI.free (k * 3) (by omega); have p1 := hI.free (k * 3 + 1) (by omega); have p2 := hI.free (k * 3 + 2) (by omega)
         have HI1 := Lib.hid hI
         have HB1 := Lib.hid hB
         clear hI hB
         go_wp2_with fail
         go_roundw
         case rel =>
          go_light
          refine ⟨k + 1, by omega, by omega, by go_num, ?_, ?_⟩
          ·have K := rimg_reg HI1.out (by omega : k < 11) Wh.nil
           dsimp only at K
           rw [rclr_succ _ hk1] at K
           exact K
          ·exact ((HB1.out.setCell (.inl rfl) _).setCell (.inl rfl) _).setCell (.inl rfl) _
         case measure => simp [intOf]; omega
        ·obtain rfl : k = 6 := by omega
         have HI1 := Lib.hid hI
         have HB1 := Lib.hid hB
         clear hI hB
         go_wp2_with fail
         go_meet
         go_light
         refine ⟨0, pc + 1, rcall s 2, rfl, by go_num, ?_, ?_, ?_⟩
         ·exact HLd.out.but (c := w.heap.size) HB1.out (Nat.le_refl _) (by omega) HNS.out
         ·exact HB1.out.img HIF.out (by omega) (by omega)
         ·exact .inl ⟨rfl, by omega, pn, HML.out, HI1.out, by rw [HST.out]; push_cast; rfl⟩
     ·by_cases k1 : (s.regs 1).kind = 1
      ·as_aux_lemma =>
        have t4 : (letter (s.regs 1).kind != 110) = false := by rw [(letter_1 ok1).2 k1]; rfl
        have HST := Lib.hid (show s.step ⟨27, d, sr, r, o, 3⟩ pc = .go (some (rcall s 3, (pc : Int) + 1)) none from by rw [rstep_call, rcall_ok (.inr k1)]; simp)
        have HML := Lib.hid (show VSOk (rcall s 3) from by have := HS.out.call 3; rw [rcall_ok (.inr k1)] at this; exact this)
        clear k1 ok1
        generalize letter (s.regs 1).kind = lk1 at *
        go_wp2_with (first | (go_at_call 29; refine (RefAsks_any _ _).mono ?_; rintro e w' ⟨rfl, rfl⟩; rw [asks_of]))
        generalize hW : World.setCell (World.setCell (World.setCell w3 _ _) _ _) _ _ = wx
        have KX : P.Img wx w.heap.size 81 (simg rwcell { s with regs := upd s.regs 0 (.num ball) }) := by
         rw [← hW]; exact rimg_reg HIS.out (by omega : 0 < 11) (.num ball)
        have BX : But w.heap.size w3 wx := hW ▸ (((But.refl w.heap.size w3).setCell (.inl rfl) _).setCell (.inl rfl) _).setCell (.inl rfl) _
        clear hW
        have HKX := Lib.hid KX
        have HBX := Lib.hid BX
        clear KX BX z0 z1 z2 p0 p1 p2 q0
        refine (RefOne_any 0 _).mono ?_
        rintro e wo ⟨rfl, hbo⟩
        have zx : w.heap.size < wx.heap.size := HKX.out.lt (by omega)
        have IO := HKX.out.later hbo zx
        have HBO := Lib.hid (HBX.out.trans (But.of hbo))
        obtain ⟨u0, z0⟩ : ∃ u, wo.cell? ⟨w.heap.size, 0, none⟩ = some u := ⟨_, IO.cell 0 (by omega)⟩
        obtain ⟨u1, z1⟩ : ∃ u, wo.cell? ⟨w.heap.size, 1, none⟩ = some u := ⟨_, IO.cell 1 (by omega)⟩
        obtain ⟨u2, z2⟩ : ∃ u, wo.cell? ⟨w.heap.size, 2, none⟩ = some u := ⟨_, IO.cell 2 (by omega)⟩
        have p0 := IO.free 0 (by omega); have p1 := IO.free 1 (by omega); have p2 := IO.free 2 (by omega)
        have HIO := Lib.hid IO
        have zo2 : w.heap.size < wo.heap.size := IO.lt (by omega)
        clear IO hbo zx HKX HBX
        go_wp2_with fail
        generalize hW : World.setCell (World.setCell (World.setCell wo _ _) _ _) _ _ = wy
        have KX : P.Img wy w.heap.size 81 (simg rwcell { s with regs := upd s.regs 0 (.num (bone 0)) }) := by
         rw [← hW]
         have K := rimg_reg HIO.out (by omega : 0 < 11) (.num (bone 0))
         dsimp only at K
         rw [rupd_upd] at K
         exact K
        have BX : But w.heap.size w3 wy := hW ▸ ((HBO.out.setCell (.inl rfl) _).setCell (.inl rfl) _).setCell (.inl rfl) _
        clear hW
        have HKX := Lib.hid KX
        have HBX := Lib.hid BX
        clear KX BX z0 z1 z2 p0 p1 p2 HIO HBO zo2
        go_loopw [14] (fun i wr => ∃ k : Nat, 1 ≤ k ∧ k ≤ 6 ∧ i = .int .i64 k ∧ P.Img wr w.heap.size 81 (simg rwcell { s with regs := rclr (upd s.regs 0 (.num (bone 0))) k }) ∧ But w.heap.size w3 wr) (fun i _ => 6 - (intOf i).toNat)
        case atStart => exact ⟨1, by omega, by omega, rfl, by rw [rclr_1]; exact HKX.out, HBX.out⟩
        case round =>
         obtain ⟨k, hk1, hk6, rfl, hI, hB⟩ := hrel
         by_cases h : k ≤ 5
         ·have i1 : (k : Int) ≤ 5 := by omega
          have i2 : (k : Int) < 11 := by omega
          have i3 : (k : Int) < 27 := by omega
          obtain ⟨u0, z0⟩ : ∃ u, wr.cell? ⟨w.heap.size, k * 3, none⟩ = some u := ⟨_, hI.cell (k * 3) (by omega)⟩
          obtain ⟨u1, z1⟩ : ∃ u, wr.cell? ⟨w.heap.size, k * 3 + 1, none⟩ = some u := ⟨_, hI.cell (k * 3 + 1) (by omega)⟩
          obtain ⟨u2, z2⟩ : ∃ u, wr.cell? ⟨w.heap.size, k * 3 + 2, none⟩ = some u := ⟨_, hI.cell (k * 3 + 2) (by omega)⟩
          have p0 := hI.free (k * 3) (by omega); have p1 := hI.free (k * 3 + 1) (by omega); have p2 := hI.free (k * 3 + 2) (by omega)
          have HI1 := Lib.hid hI
          have HB1 := Lib.hid hB
          clear hI hB
          go_wp2_with fail
          go_roundw
          case rel =>
           go_light
           refine ⟨k + 1, by omega, by omega, by go_num, ?_, ?_⟩
           ·have K := rimg_reg HI1.out (by omega : k < 11) Wh.nil
            dsimp only at K
            rw [rclr_succ _ hk1] at K
            exact K
           ·exact ((HB1.out.setCell (.inl rfl) _).setCell (.inl rfl) _).setCell (.inl rfl) _
          case measure => simp [intOf]; omega
         ·obtain rfl : k = 6 := by omega
          have HI1 := Lib.hid hI
          have HB1 := Lib.hid hB
          clear hI hB
          go_wp2_with fail
          go_meet
          go_light
          refine ⟨0, pc + 1, rcall s 3, rfl, by go_num, ?_, ?_, ?_⟩
          ·exact HLd.out.but (c := w.heap.size) HB1.out (Nat.le_refl _) (by omega) HNS.out
          ·exact HB1.out.img HIF.out (by omega) (by omega)
          ·exact .inl ⟨rfl, by omega, pn, HML.out, HI1.out, by rw [HST.out]; push_cast; rfl⟩
      ·by_cases k0 : (s.regs 1).kind = 0
       ·as_aux_lemma =>
         have t4 : (letter (s.regs 1).kind != 110) = true := rbne_yes (fun h => k1 ((letter_1 ok1).1 h))
         have t5 : (letter (s.regs 1).kind == 0) = true := rbeq_yes ((letter_0 ok1).2 k0)
         have HST := Lib.hid (show s.step ⟨27, d, sr, r, o, 3⟩ pc = .err 8 from by rw [rstep_call, rcall_err (by decide) k1, if_pos k0]; rfl)
         clear k1 ok1 k0
         generalize letter (s.regs 1).kind = lk1 at *
         go_wp2_with (first | (go_at_call 29; refine (RefAsks_any _ _).mono ?_; rintro e w' ⟨rfl, rfl⟩; rw [asks_of]))
         generalize hW : World.setCell (World.setCell (World.setCell w3 _ _) _ _) _ _ = wx
         have KX : P.Img wx w.heap.size 81 (simg rwcell { s with regs := upd s.regs 0 (.num ball) }) := by
          rw [← hW]; exact rimg_reg HIS.out (by omega : 0 < 11) (.num ball)
         have BX : But w.heap.size w3 wx := hW ▸ (((But.refl w.heap.size w3).setCell (.inl rfl) _).setCell (.inl rfl) _).setCell (.inl rfl) _
         clear hW
         have HKX := Lib.hid KX
         have HBX := Lib.hid BX
         clear KX BX z0 z1 z2 p0 p1 p2 q0
         refine (RefOne_any 0 _).mono ?_
         rintro e wo ⟨rfl, hbo⟩
         have zx : w.heap.size < wx.heap.size := HKX.out.lt (by omega)
         have IO := HKX.out.later hbo zx
         have HBO := Lib.hid (HBX.out.trans (But.of hbo))
         obtain ⟨u0, z0⟩ : ∃ u, wo.cell? ⟨w.heap.size, 0, none⟩ = some u := ⟨_, IO.cell 0 (by omega)⟩
         obtain ⟨u1, z1⟩ : ∃ u, wo.cell? ⟨w.heap.size, 1, none⟩ = some u := ⟨_, IO.cell 1 (by omega)⟩
         obtain ⟨u2, z2⟩ : ∃ u, wo.cell? ⟨w.heap.size, 2, none⟩ = some u := ⟨_, IO.cell 2 (by omega)⟩
         have p0 := IO.free 0 (by omega); have p1 := IO.free 1 (by omega); have p2 := IO.free 2 (by omega)
         have HIO := Lib.hid IO
         have zo2 : w.heap.size < wo.heap.size := IO.lt (by omega)
         clear IO hbo zx HKX HBX
         go_wp2_with fail
         generalize hW : World.setCell (World.setCell (World.setCell wo _ _) _ _) _ _ = wy
         have KX : P.Img wy w.heap.size 81 (simg rwcell { s with regs := upd s.regs 0 (.num (bone 0)) }) := by
          rw [← hW]
          have K := rimg_reg HIO.out (by omega : 0 < 11) (.num (bone 0))
          dsimp only at K
          rw [rupd_upd] at K
          exact K
         have BX : But w.heap.size w3 wy := hW ▸ ((HBO.out.setCell (.inl rfl) _).setCell (.inl rfl) _).setCell (.inl rfl) _
         clear hW
         have HKX := Lib.hid KX
         have HBX := Lib.hid BX
         clear KX BX z0 z1 z2 p0 p1 p2 HIO HBO zo2
         go_loopw [14] (fun i wr => ∃ k : Nat, 1 ≤ k ∧ k ≤ 6 ∧ i = .int .i64 k ∧ P.Img wr w.heap.size 81 (simg rwcell { s with regs := rclr (upd s.regs 0 (.num (bone 0))) k }) ∧ But w.heap.size w3 wr) (fun i _ => 6 - (intOf i).toNat)
         case atStart => exact ⟨1, by omega, by omega, rfl, by rw [rclr_1]; exact HKX.out, HBX.out⟩
         case round =>
          obtain ⟨k, hk1, hk6, rfl, hI, hB⟩ := hrel
          by_cases h : k ≤ 5
          ·have i1 : (k : Int) ≤ 5 := by omega
           have i2 : (k : Int) < 11 := by omega
           have i3 : (k : Int) < 27 := by omega
           obtain ⟨u0, z0⟩ : ∃ u, wr.cell? ⟨w.heap.size, k * 3, none⟩ = some u := ⟨_, hI.cell (k * 3) (by omega)⟩
           obtain ⟨u1, z1⟩ : ∃ u, wr.cell? ⟨w.heap.size, k * 3 + 1, none⟩ = some u := ⟨_, hI.cell (k * 3 + 1) (by omega)⟩
           obtain ⟨u2, z2⟩ : ∃ u, wr.cell? ⟨w.heap.size, k * 3 + 2, none⟩ = some u := ⟨_, hI.cell (k * 3 + 2) (by omega)⟩
           have p0 := hI.free (k * 3) (by omega); have p1 := hI.free (k * 3 + 1) (by omega); have p2 := hI.free (k * 3 + 2) (by omega)
           have HI1 := Lib.hid hI
           have HB1 := Lib.hid hB
           clear hI hB
           go_wp2_with fail
           go_roundw
           case rel =>
            go_light
            refine ⟨k + 1, by omega, by omega, by go_num, ?_, ?_⟩
            ·have K := rimg_reg HI1.out (by omega : k < 11) Wh.nil
             dsimp only at K
             rw [rclr_succ _ hk1] at K
             exact K
            ·exact ((HB1.out.setCell (.inl rfl) _).setCell (.inl rfl) _).setCell (.inl rfl) _
           case measure => simp [intOf]; omega
          ·obtain rfl : k = 6 := by omega
           have HI1 := Lib.hid hI
           have HB1 := Lib.hid hB
           clear hI hB
           go_wp2_with fail
           go_meet
           go_light
           refine ⟨8, pc + 1, rcall s 3, rfl, by go_num, ?_, ?_, ?_⟩
           ·exact HLd.out.but (c := w.heap.size) HB1.out (Nat.le_refl _) (by omega) HNS.out
           ·exact HB1.out.img HIF.out (by omega) (by omega)
           ·exact .inr ⟨by decide, HST.out⟩
       ·as_aux_lemma =>
         have t4 : (letter (s.regs 1).kind != 110) = true := rbne_yes (fun h => k1 ((letter_1 ok1).1 h))
         have t5 : (letter (s.regs 1).kind == 0) = false := rbeq_no (fun h => k0 ((letter_0 ok1).1 h))
         have HST := Lib.hid (show s.step ⟨27, d, sr, r, o, 3⟩ pc = .err 1 from by rw [rstep_call, rcall_err (by decide) k1, if_neg k0]; rfl)
         clear k1 ok1 k0
         generalize letter (s.regs 1).kind = lk1 at *
         go_wp2_with (first | (go_at_call 29; refine (RefAsks_any _ _).mono ?_; rintro e w' ⟨rfl, rfl⟩; rw [asks_of]))
         generalize hW : World.setCell (World.setCell (World.setCell w3 _ _) _ _) _ _ = wx
         have KX : P.Img wx w.heap.size 81 (simg rwcell { s with regs := upd s.regs 0 (.num ball) }) := by
          rw [← hW]; exact rimg_reg HIS.out (by omega : 0 < 11) (.num ball)
         have BX : But w.heap.size w3 wx := hW ▸ (((But.refl w.heap.size w3).setCell (.inl rfl) _).setCell (.inl rfl) _).setCell (.inl rfl) _
         clear hW
         have HKX := Lib.hid KX
         have HBX := Lib.hid BX
         clear KX BX z0 z1 z2 p0 p1 p2 q0
         refine (RefOne_any 0 _).mono ?_
         rintro e wo ⟨rfl, hbo⟩
         have zx : w.heap.size < wx.heap.size := HKX.out.lt (by omega)
         have IO := HKX.out.later hbo zx
         have HBO := Lib.hid (HBX.out.trans (But.of hbo))
         obtain ⟨u0, z0⟩ : ∃ u, wo.cell? ⟨w.heap.size, 0, none⟩ = some u := ⟨_, IO.cell 0 (by omega)⟩
         obtain ⟨u1, z1⟩ : ∃ u, wo.cell? ⟨w.heap.size, 1, none⟩ = some u := ⟨_, IO.cell 1 (by omega)⟩
         obtain ⟨u2, z2⟩ : ∃ u, wo.cell? ⟨w.heap.size, 2, none⟩ = some u := ⟨_, IO.cell 2 (by omega)⟩
         have p0 := IO.free 0 (by omega); have p1 := IO.free 1 (by omega); have p2 := IO.free 2 (by omega)
         have HIO := Lib.hid IO
         have zo2 : w.heap.size < wo.heap.size := IO.lt (by omega)
         clear IO hbo zx HKX HBX
         go_wp2_with fail
         generalize hW : World.setCell (World.setCell (World.setCell wo _ _) _ _) _ _ = wy
         have KX : P.Img wy w.heap.size 81 (simg rwcell { s with regs := upd s.regs 0 (.num (bone 0)) }) := by
          rw [← hW]
          have K := rimg_reg HIO.out (by omega : 0 < 11) (.num (bone 0))
          dsimp only at K
          rw [rupd_upd] at K
          exact K
         have BX : But w.heap.size w3 wy := hW ▸ ((HBO.out.setCell (.inl rfl) _).setCell (.inl rfl) _).setCell (.inl rfl) _
         clear hW
         have HKX := Lib.hid KX
         have HBX := Lib.hid BX
         clear KX BX z0 z1 z2 p0 p1 p2 HIO HBO zo2
         go_loopw [14] (fun i wr => ∃ k : Nat, 1 ≤ k ∧ k ≤ 6 ∧ i = .int .i64 k ∧ P.Img wr w.heap.size 81 (simg rwcell { s with regs := rclr (upd s.regs 0 (.num (bone 0))) k }) ∧ But w.heap.size w3 wr) (fun i _ => 6 - (intOf i).toNat)
         case atStart => exact ⟨1, by omega, by omega, rfl, by rw [rclr_1]; exact HKX.out, HBX.out⟩
         case round =>
          obtain ⟨k, hk1, hk6, rfl, hI, hB⟩ := hrel
          by_cases h : k ≤ 5
          ·have i1 : (k : Int) ≤ 5 := by omega
           have i2 : (k : Int) < 11 := by omega
           have i3 : (k : Int) < 27 := by omega
           obtain ⟨u0, z0⟩ : ∃ u, wr.cell? ⟨w.heap.size, k * 3, none⟩ = some u := ⟨_, hI.cell (k * 3) (by omega)⟩
           obtain ⟨u1, z1⟩ : ∃ u, wr.cell? ⟨w.heap.size, k * 3 + 1, none⟩ = some u := ⟨_, hI.cell (k * 3 + 1) (by omega)⟩
           obtain ⟨u2, z2⟩ : ∃ u, wr.cell? ⟨w.heap.size, k * 3 + 2, none⟩ = some u := ⟨_, hI.cell (k * 3 + 2) (by omega)⟩
           have p0 := hI.free (k * 3) (by omega); have p1 := hI.free (k * 3 + 1) (by omega); have p2 := hI.free (k * 3 + 2) (by omega)
           have HI1 := Lib.hid hI
           have HB1 := Lib.hid hB
           clear hI hB
           go_wp2_with fail
           go_roundw
           case rel =>
            go_light
            refine ⟨k + 1, by omega, by omega, by go_num, ?_, ?_⟩
            ·have K := rimg_reg HI1.out (by omega : k < 11) Wh.nil
             dsimp only at K
             rw [rclr_succ _ hk1] at K
             exact K
            ·exact ((HB1.out.setCell (.inl rfl) _).setCell (.inl rfl) _).setCell (.inl rfl) _
           case measure => simp [intOf]; omega
          ·obtain rfl : k = 6 := by omega
           have HI1 := Lib.hid hI
           have HB1 := Lib.hid hB
           clear hI hB
           go_wp2_with fail
           go_meet
           go_light
           refine ⟨1, pc + 1, rcall s 3, rfl, by go_num, ?_, ?_, ?_⟩
           ·exact HLd.out.but (c := w.heap.size) HB1.out (Nat.le_refl _) (by omega) HNS.out
           ·exact HB1.out.img HIF.out (by omega) (by omega)
           ·exact .inr ⟨by decide, HST.out⟩
   ·as_aux_lemma =>
     have hneg : c = 13 → r = false ∧ nn = 0 := by
      intro e
      have := HNB.out
      unfold bad two at this
      subst e
      cases r with
      | false => simp at this; exact ⟨rfl, by omega⟩
      | true => simp at this
     have k0 := cell_regrown f0; have k1 := cell_regrown f1
     have k5 := cell_regrown x0; have k6 := cell_regrown x1; have k7 := cell_regrown x2
     have k8 := cell_regrown y0; have k9 := cell_regrown y1; have k10 := cell_regrown y2
     have t28 := rbeq_no (show c ≠ 28 by omega); have t14 := rbeq_no (show c ≠ 14 by omega); have t25 := rbeq_no (show c ≠ 25 by omega); have t26 := rbeq_no (show c ≠ 26 by omega); have t27 := rbeq_no (show c ≠ 27 by omega)
     have t15 : decide (15 ≤ c) = false := by simp; omega
     have hst := rstep_make s c hc d sr r o nn pc hneg
     have hx := HSEC.out
     have pn : pc + 1 < n := by omega
     generalize s.second ⟨c, d, sr, r, o, nn⟩ = y at *
     have cL : ∀ dr os, Calls Tryd.prog 58 #[.int .i64 c, .agg #[.int .u8 (letter (s.regs d).kind), .int .i64 (s.regs d).b.lo, .int .i64 (s.regs d).b.hi], .agg #[.int .u8 (letter y.kind), .int .i64 y.b.lo, .int .i64 y.b.hi]] (Go.Sort.grow (redrawn w3 dr) os) fun e w'' =>
      e = .returned (.tuple #[.agg #[.int .u8 (letter (wcounts c (s.regs d) y).1.kind), .int .i64 (wcounts c (s.regs d) y).1.b.lo, .int .i64 (wcounts c (s.regs d) y).1.b.hi], .int .i64 (wcounts c (s.regs d) y).2]) ∧ ∃ p : Regrown, w'' = Go.Sort.grow (redrawn w3 p.d) p.os := fun dr os => Calls.regrown_of (RCombine_any c (s.regs d) y (HS.out.1 d) hx _ (HGd.out.later (below_regrown w3 dr os)))
     have hml := wcounts_ok (c := c) (HS.out.1 d) hx
     generalize wcounts c (s.regs d) y = L at *
     obtain ⟨⟨lk2, ⟨ln, lc⟩⟩, le⟩ := L
     have HST := Lib.hid hst
     have HML := Lib.hid hml
     have CL := Lib.hid cL
     clear hst hml cL hx hc hneg
     go_wp2_with (go_at_call 29; refine (RefAsks_any _ _).mono ?_; rintro e w' ⟨rfl, rfl⟩; rw [asks_of])
     refine wp_below_one 14 (by kernel_rfl) (by kernel_rfl) ?_
     repeat (quiet_step (first | exact CL.out _ _))
     refine wpQuiet_nil ?_
     intro wq hwq
     have hbq : Below w3.heap.size w3 wq := by
      obtain ⟨p, hp⟩ := hwq
      rw [hp]; exact below_regrown _ _ _
     clear hwq
     clear k0 k1 k5 k6 k7 k8 k9 k10 f0 f1 f2 f3 f4 f5 x0 x1 x2 m0 m1 m2 y0 y1 y2 CL t28 t14 t25 t26 t27 t15
     have HIQ := Lib.hid (HIS.out.later hbq zSd)
     have HFQ := Lib.hid (HIF.out.later hbq zFd)
     have HLQ := Lib.hid (HLd.out.later hbq)
     obtain ⟨u0, q0⟩ : ∃ u, wq.cell? ⟨w.heap.size, d * 3, none⟩ = some u := ⟨_, HIQ.out.cell (d * 3) (by omega)⟩
     obtain ⟨u1, q1⟩ : ∃ u, wq.cell? ⟨w.heap.size, d * 3 + 1, none⟩ = some u := ⟨_, HIQ.out.cell (d * 3 + 1) (by omega)⟩
     obtain ⟨u2, q2⟩ : ∃ u, wq.cell? ⟨w.heap.size, d * 3 + 2, none⟩ = some u := ⟨_, HIQ.out.cell (d * 3 + 2) (by omega)⟩
     have p0 := HIQ.out.free (d * 3) (by omega); have p1 := HIQ.out.free (d * 3 + 1) (by omega); have p2 := HIQ.out.free (d * 3 + 2) (by omega)
     clear hbq
     go_wp2_with fail
     refine NoPanic.normal ?_
     go_wp2_with fail
     go_meet
     go_light
     refine ⟨le, pc + 1, { s with regs := upd s.regs d ⟨lk2, ⟨ln, lc⟩⟩ }, rfl, by go_num, ?_, ?_, ?_⟩
     ·exact HLQ.out.but (c := w.heap.size) ((((But.refl w.heap.size _).setCell (.inl rfl) _).setCell (.inl rfl) _).setCell (.inl rfl) _) (Nat.le_refl _) (by omega) HNS.out
     ·exact ((((But.refl w.heap.size _).setCell (.inl rfl) _).setCell (.inl rfl) _).setCell (.inl rfl) _).img HFQ.out (by omega) (by omega)
     ·exact RStepTo.pair HST.out rfl pn (HS.out.setReg' d HML.out) (rimg_reg HIQ.out dN ⟨lk2, ⟨ln, lc⟩⟩)
  case rest =>
   as_aux_lemma =>
    obtain ⟨er, q, s2, rfl, rfl, hL2, hF2, hS2⟩ := hcut
    obtain ⟨wx, hwx⟩ : ∃ x, x = wc := ⟨_, rfl⟩; subst hwx
    have HLx := Lib.hid hL2
    have HFx := Lib.hid hF2
    clear hL2 hF2
    rcases hS2 with ⟨rfl, hq1, hq2, hmo, hma, hst⟩ | ⟨he, hst⟩
    ·have hr2 := HR2.out
     rw [hst, ways_one (fun h0 => (vwalk_keeps HP.out f s2 _ ⟨lk + 1, en⟩ hmo (by omega) (by exact_mod_cast hq2) (by omega)).place h0)] at hr2
     have HR3 := Lib.hid hr2
     have HMA := Lib.hid hma
     have HMO := Lib.hid hmo
     have HGx := Lib.hid (HG.out.under (HLx.out.below HL.out) hgb)
     have HCx := Lib.hid (HC.out.under (HLx.out.below HL.out) hab)
     clear hr2 hst hma hmo
     go_wp2_with (first | (with_reducible refine vl_load (by simp [go_sem]; done) 102 (.tmp 4) rfl w.heap.size 0 (by simp [go_sem]; done) (scells rwcell s2) _ (Img.scells HMA.out) Tryd.underlying102 rfl (rsize _) ?_))
     refine (HIH.out s2 q ⟨lk + 1, en⟩ v wx HMO.out hq2 (by omega) (show (0 : Int) ≤ lk + 1 by omega) (show lk + 1 ≤ 4000 by have := HLF.out; omega) (show (en.length : Int) ≤ lk + 1 by omega) HKE.out HGx.out HCx.out HLx.out.look).mono ?_
     rintro e w9 ⟨v9, rfl, hL9⟩
     have nr9 : v9.ownBlock ≠ some (w.heap.size + 1) := row_ne hL9.row (fun g hg => (HLx.out.look.row hg).2) (HFx.out.lt (by omega)) HNF.out
     have IF9 := hL9.img HFx.out (by omega) (by omega) HNF.out
     have r0 : w9.cell? ⟨w.heap.size + 1, 0, none⟩ = some (.int .i64 0) := IF9.cell 0 (by omega)
     have r1 : w9.cell? ⟨w.heap.size + 1, 1, none⟩ = some (.int .i64 0) := IF9.cell 1 (by omega)
     have t0 := IF9.free 0 (by omega)
     have t1 := IF9.free 1 (by omega)
     have zF9 : w.heap.size + 1 < w9.heap.size := IF9.lt (by omega)
     have HL9 := Lib.hid (HLx.out.trans hL9)
     have NR9 := Lib.hid nr9
     clear hL9 nr9 IF9
     rw [HR3.out] at HL9
     rw [HR3.out]
     obtain ⟨⟨er9, pl9⟩, k9⟩ := R
     simp only at HL9 ⊢
     go_wp2_with fail
     refine bodyPost_ret (v := .agg #[.int .i64 er9, .int .i64 pl9]) ?_ rfl ?_
     ·simp [results, Tryd.results33, go_sem, *]
     ·exact ⟨v9, rfl, HL9.out.but (c := w.heap.size + 1) (((But.refl (w.heap.size + 1) _).setCell (.inl rfl) _).setCell (.inl rfl) _) (show w.heap.size ≤ w.heap.size + 1 by omega) (by omega) NR9.out⟩
    ·have hr2 := HR2.out
     rw [hst] at hr2
     subst hr2
     have tn := rbne_yes he
     have r0 : wx.cell? ⟨w.heap.size + 1, 0, none⟩ = some (.int .i64 0) := HFx.out.cell 0 (by omega)
     have r1 : wx.cell? ⟨w.heap.size + 1, 1, none⟩ = some (.int .i64 0) := HFx.out.cell 1 (by omega)
     have t0 := HFx.out.free 0 (by omega)
     have t1 := HFx.out.free 1 (by omega)
     have zFx : w.heap.size + 1 < wx.heap.size := HFx.out.lt (by omega)
     clear hst he
     go_wp2_with fail
     refine bodyPost_ret (v := .agg #[.int .i64 er, .int .i64 pc]) ?_ rfl ?_
     ·simp [results, Tryd.results33, go_sem, *]
     ·exact ⟨v, rfl, HLx.out.but (c := w.heap.size + 1) (((But.refl (w.heap.size + 1) _).setCell (.inl rfl) _).setCell (.inl rfl) _) (show w.heap.size ≤ w.heap.size + 1 by omega) (by omega) HNF.out⟩
end Go.Proofs.YtfpoicdfkjbknaaDoor.W
