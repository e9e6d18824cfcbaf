/- The walk of verify.call: what a call leaves. Conditions: what is known lies in a block of 81 cells. -/
import Derived.Test.YtfpoicdfkjbknaaDoorV5
namespace Go.Proofs.YtfpoicdfkjbknaaDoor.W
open Go.RowKit Go.Proofs.YtfpoicdfkjbknaaDoor.P
set_option linter.unusedSimpArgs false
set_option linter.unusedVariables false

theorem vupd_upd {α : Type} (f : Nat → α) (i : Nat) (u v : α) : upd (upd f i u) i v = upd f i v := by
 funext j; by_cases h : j = i
 ·subst h; rw [upd_same, upd_same]
 ·rw [upd_other h, upd_other h, upd_other h]
/-- registers 1 to k - 1 are cleared -/
def vclr (f : Nat → Wh) (k : Nat) : Nat → Wh := fun j => if 1 ≤ j ∧ j < k then Wh.nil else f j
theorem vclr_1 (f : Nat → Wh) : vclr f 1 = f := by funext j; unfold vclr; rw [if_neg (by omega)]
theorem vclr_succ (f : Nat → Wh) {k : Nat} (hk : 1 ≤ k) : upd (vclr f k) k Wh.nil = vclr f (k + 1) := by
 funext j
 by_cases h : j = k
 ·subst h; rw [upd_same]; unfold vclr; rw [if_pos (by omega)]
 ·rw [upd_other h]; unfold vclr
  by_cases h2 : 1 ≤ j ∧ j < k
  ·rw [if_pos h2, if_pos (by omega)]
  ·rw [if_neg h2, if_neg (by omega)]
/-- what register 0 has behind a call -/
def vret (n : Int) : Wh := if n = 1 then ⟨5, bone 0⟩ else if n = 3 then .num (bone 0) else .num ball
theorem vcall_ok {s : VS} {n : Int} (h : n = 2 ∨ (s.regs 1).kind = 1) : s.call n = ({ s with regs := upd (vclr s.regs 6) 0 (vret n) }, 0) := by
 unfold VS.call
 rw [if_neg (by omega), if_neg (by omega)]
 congr 2
 funext j
 by_cases h0 : j = 0
 ·subst h0; rw [upd_same]; rfl
 ·rw [upd_other h0, if_neg h0]; unfold vclr; simp only [Nat.lt_succ_iff]

set_option maxRecDepth 100000 in
set_option maxHeartbeats 1000000 in
theorem VCall_err (b : Nat) (s : VS) (w : World) (hI : P.Img w b 81 (simg wcell s)) (n : Int) (hn : n ≠ 2) (x : Wh) (hx : s.regs 1 = x) (hk : x.kind ≠ 1) :
  Calls Tryd.prog 65 #[.pointer (some ⟨b, 0, none⟩), .int .i64 n] w fun e w' => e = .returned (.int .i64 (if x.kind = 0 then 8 else 1)) ∧ Below w.heap.size w w' := by
 have HW0 := Lib.hid (Below.refl w.heap.size w)
 obtain ⟨c0, c1, c2⟩ := rcells hI (by omega : 1 < 11)
 rw [hx] at c0 c1 c2
 have HI := Lib.hid hI
 have HX := Lib.hid hx
 clear hI hx
 have n2 := vbne_yes hn
 have k2 := vbeq_no hk
 clear hn hk
 by_cases k1 : x.kind = 0
 ·rw [if_pos k1]
  have q1 := vbeq_yes k1
  clear k1
  go_enter Tryd.func65, Tryd.ntmps65
  go_wp2_with fail
  go_ret
  exact ⟨rfl, (by repeat' (first | with_reducible (first | exact HW0.out | apply bR | apply bD | apply bN | apply bA | apply bS) | (simp; done) | (simp; omega) | omega))⟩
 ·rw [if_neg k1]
  have q1 := vbeq_no k1
  clear k1
  go_enter Tryd.func65, Tryd.ntmps65
  go_wp2_with fail
  go_ret
  exact ⟨rfl, (by repeat' (first | with_reducible (first | exact HW0.out | apply bR | apply bD | apply bN | apply bA | apply bS) | (simp; done) | (simp; omega) | omega))⟩

/- call -/
set_option maxRecDepth 100000 in
set_option maxHeartbeats 4000000 in
theorem VCall_1 (b : Nat) (s : VS) (w : World) (hI : P.Img w b 81 (simg wcell s)) (x : Wh) (hx : s.regs 1 = x) (hk : x.kind = 1) :
  Calls Tryd.prog 65 #[.pointer (some ⟨b, 0, none⟩), .int .i64 1] w fun e w' => e = .returned (.int .i64 0) ∧ P.Img w' b 81 (simg wcell { s with regs := upd (vclr s.regs 6) 0 (vret 1) }) ∧ But b w w' := by
 have HW0 := Lib.hid (Below.refl w.heap.size w)
 have hlt := hI.lt (by omega)
 obtain ⟨c0, c1, c2⟩ := rcells hI (by omega : 1 < 11)
 rw [hx] at c0 c1 c2
 have HI := Lib.hid hI
 clear hI hx
 have q1 := vbeq_yes hk; have q0 := vbeq_no (show x.kind ≠ 0 by omega)
 clear hk
 have CA := Lib.hid (show ∀ wd dr os, Calls Tryd.prog 84 #[] (Go.Sort.grow (redrawn wd dr) os) fun e w' => e = .returned (.agg #[.int .i64 (-9223372036854775808), .int .i64 9223372036854775807]) ∧ ∃ p : Regrown, w' = Go.Sort.grow (redrawn wd p.d) p.os from fun wd dr os => Calls.regrown_of (All_any _))
 have CN := Lib.hid (show ∀ lo hi wd dr os, Calls Tryd.prog 67 #[.agg #[.int .i64 lo, .int .i64 hi]] (Go.Sort.grow (redrawn wd dr) os) fun e w' => e = .returned (.agg #[.int .i64 1, .int .i64 lo, .int .i64 hi]) ∧ ∃ p : Regrown, w' = Go.Sort.grow (redrawn wd p.d) p.os from fun lo hi wd dr os => Calls.regrown_of (VNumber_any lo hi _))
 have CO := Lib.hid (show ∀ wd dr os, Calls Tryd.prog 35 #[.int .i64 0] (Go.Sort.grow (redrawn wd dr) os) fun e w' => e = .returned (.agg #[.int .i64 0, .int .i64 0]) ∧ ∃ p : Regrown, w' = Go.Sort.grow (redrawn wd p.d) p.os from fun wd dr os => Calls.regrown_of (One_any 0 _))
 go_enter Tryd.func65, Tryd.ntmps65
 go_wp2_with fail
 go_loopw [6] (fun i wr => ∃ k : Nat, 1 ≤ k ∧ k ≤ 6 ∧ i = .int .i64 k ∧ P.Img wr b 81 (simg wcell { s with regs := vclr s.regs k }) ∧ But b w wr) (fun i _ => 6 - (intOf i).toNat)
 case atStart => exact ⟨1, by omega, by omega, rfl, by rw [vclr_1]; exact HI.out.alloc _, (by repeat' (first | with_reducible (first | exact (But.of HW0.out) | exact But.refl _ _ | refine But.drew ?_ | refine But.drewN ?_ _ | refine But.alloc ?_ _ | refine But.setCell ?_ ?_ _) | (exact .inl rfl) | (simp; done) | (simp; omega) | omega))⟩
 case round =>
  obtain ⟨k, hk1, hk6, rfl, hI, hB⟩ := hrel
  by_cases h : k ≤ 5
  ·have i1 : (k : Int) ≤ 5 := by omega
   have i2 : (k : Int) < 11 := by omega
   have d0 := hI.cell (k * 3) (by omega)
   have d1 := hI.cell (k * 3 + 1) (by omega)
   have d2 := hI.cell (k * 3 + 2) (by omega)
   have s0 := hI.free (k * 3) (by omega)
   have s1 := hI.free (k * 3 + 1) (by omega)
   have s2 := hI.free (k * 3 + 2) (by omega)
   have HI1 := Lib.hid hI
   have HB1 := Lib.hid hB
   clear hI hB
   go_wp2_with fail
   go_roundw
   case rel =>
    go_light
    refine ⟨k + 1, by omega, by omega, by go_num, ?_, ?_⟩
    ·have K := (((HI1.out.set (j := k * 3) (by omega) (wcell Wh.nil 0)).set (j := k * 3 + 1) (by omega) (wcell Wh.nil 1)).set (j := k * 3 + 2) (by omega) (wcell Wh.nil 2)).congr (simg_setreg (by omega : k < 11) Wh.nil)
     rw [← vclr_succ _ hk1]
     exact K
    ·exact ((HB1.out.setCell (.inl rfl) _).setCell (.inl rfl) _).setCell (.inl rfl) _
   case measure => simp [intOf]; omega
  ·obtain rfl : k = 6 := by omega
   have HI1 := Lib.hid hI
   have HB1 := Lib.hid hB
   have zb := hI.lt (by omega)
   clear hI hB
   go_wp2_with fail
   refine wp_below_tail 6 (by kernel_rfl) (by kernel_rfl) ?_
   repeat (quiet_step (first | exact CA.out _ _ _ | exact CN.out _ _ _ _ _))
   refine wpQuiet_nil ?_
   intro wq hwq
   have hbq : Below wr.heap.size wr wq := by
    obtain ⟨p, hp⟩ := hwq
    rw [hp]; exact below_regrown _ _ _
   clear hwq
   have IQ := HI1.out.later hbq zb
   have HIQ := Lib.hid IQ
   have HBQ := Lib.hid (HB1.out.trans (But.of hbq))
   have d0 := IQ.cell 0 (by omega)
   have d1 := IQ.cell 1 (by omega)
   have d2 := IQ.cell 2 (by omega)
   have s0 := IQ.free 0 (by omega)
   have s1 := IQ.free 1 (by omega)
   have s2 := IQ.free 2 (by omega)
   clear hbq IQ
   go_wp2_with fail
   generalize hW : World.setCell (World.setCell (World.setCell wq _ _) _ _) _ _ = wx
   have K1 : P.Img wx b 81 (simg wcell { s with regs := upd (vclr s.regs 6) 0 (.num ball) }) := by
    rw [← hW]
    have K := (((HIQ.out.set (j := 0) (by omega) (wcell (.num ball) 0)).set (j := 1) (by omega) (wcell (.num ball) 1)).set (j := 2) (by omega) (wcell (.num ball) 2)).congr (simg_setreg (by omega : 0 < 11) (.num ball))
    exact K
   have HK1 := Lib.hid K1
   have HB2 := Lib.hid (show But b w wx from hW ▸ ((HBQ.out.setCell (.inl rfl) _).setCell (.inl rfl) _).setCell (.inl rfl) _)
   clear K1 hW
   clear d0 d1 d2 s0 s1 s2
   have zx := HK1.out.lt (by omega)
   refine wp_below_tail 6 (by kernel_rfl) (by kernel_rfl) ?_
   repeat (quiet_step (first | exact CO.out _ _ _ | exact CN.out _ _ _ _ _))
   refine wpQuiet_nil ?_
   intro wz hwz
   have hbz : Below wx.heap.size wx wz := by
    obtain ⟨p, hp⟩ := hwz
    rw [hp]; exact below_regrown _ _ _
   clear hwz
   have IZ := HK1.out.later hbz zx
   have HIZ := Lib.hid IZ
   have HBZ := Lib.hid (HB2.out.trans (But.of hbz))
   have d0 := IZ.cell 0 (by omega)
   have d1 := IZ.cell 1 (by omega)
   have d2 := IZ.cell 2 (by omega)
   have s0 := IZ.free 0 (by omega)
   have s1 := IZ.free 1 (by omega)
   have s2 := IZ.free 2 (by omega)
   clear hbz IZ
   go_wp2_with fail
   go_ret
   refine ⟨rfl, ?_, ?_⟩
   ·have K := (((HIZ.out.set (j := 0) (by omega) (wcell (⟨5, bone 0⟩ : Wh) 0)).set (j := 1) (by omega) (wcell (⟨5, bone 0⟩ : Wh) 1)).set (j := 2) (by omega) (wcell (⟨5, bone 0⟩ : Wh) 2)).congr (simg_setreg (by omega : 0 < 11) (⟨5, bone 0⟩ : Wh))
    dsimp only at K
    rw [vupd_upd] at K
    exact K
   ·exact ((HBZ.out.setCell (.inl rfl) _).setCell (.inl rfl) _).setCell (.inl rfl) _

set_option maxRecDepth 100000 in
set_option maxHeartbeats 4000000 in
theorem VCall_2 (b : Nat) (s : VS) (w : World) (hI : P.Img w b 81 (simg wcell s)) (x : Wh) (hx : s.regs 1 = x) :
  Calls Tryd.prog 65 #[.pointer (some ⟨b, 0, none⟩), .int .i64 2] w fun e w' => e = .returned (.int .i64 0) ∧ P.Img w' b 81 (simg wcell { s with regs := upd (vclr s.regs 6) 0 (vret 2) }) ∧ But b w w' := by
 have HW0 := Lib.hid (Below.refl w.heap.size w)
 have hlt := hI.lt (by omega)
 obtain ⟨c0, c1, c2⟩ := rcells hI (by omega : 1 < 11)
 rw [hx] at c0 c1 c2
 have HI := Lib.hid hI
 clear hI hx
 have CA := Lib.hid (show ∀ wd dr os, Calls Tryd.prog 84 #[] (Go.Sort.grow (redrawn wd dr) os) fun e w' => e = .returned (.agg #[.int .i64 (-9223372036854775808), .int .i64 9223372036854775807]) ∧ ∃ p : Regrown, w' = Go.Sort.grow (redrawn wd p.d) p.os from fun wd dr os => Calls.regrown_of (All_any _))
 have CN := Lib.hid (show ∀ lo hi wd dr os, Calls Tryd.prog 67 #[.agg #[.int .i64 lo, .int .i64 hi]] (Go.Sort.grow (redrawn wd dr) os) fun e w' => e = .returned (.agg #[.int .i64 1, .int .i64 lo, .int .i64 hi]) ∧ ∃ p : Regrown, w' = Go.Sort.grow (redrawn wd p.d) p.os from fun lo hi wd dr os => Calls.regrown_of (VNumber_any lo hi _))
 have CO := Lib.hid (show ∀ wd dr os, Calls Tryd.prog 35 #[.int .i64 0] (Go.Sort.grow (redrawn wd dr) os) fun e w' => e = .returned (.agg #[.int .i64 0, .int .i64 0]) ∧ ∃ p : Regrown, w' = Go.Sort.grow (redrawn wd p.d) p.os from fun wd dr os => Calls.regrown_of (One_any 0 _))
 go_enter Tryd.func65, Tryd.ntmps65
 go_wp2_with fail
 go_loopw [6] (fun i wr => ∃ k : Nat, 1 ≤ k ∧ k ≤ 6 ∧ i = .int .i64 k ∧ P.Img wr b 81 (simg wcell { s with regs := vclr s.regs k }) ∧ But b w wr) (fun i _ => 6 - (intOf i).toNat)
 case atStart => exact ⟨1, by omega, by omega, rfl, by rw [vclr_1]; exact HI.out.alloc _, (by repeat' (first | with_reducible (first | exact (But.of HW0.out) | exact But.refl _ _ | refine But.drew ?_ | refine But.drewN ?_ _ | refine But.alloc ?_ _ | refine But.setCell ?_ ?_ _) | (exact .inl rfl) | (simp; done) | (simp; omega) | omega))⟩
 case round =>
  obtain ⟨k, hk1, hk6, rfl, hI, hB⟩ := hrel
  by_cases h : k ≤ 5
  ·have i1 : (k : Int) ≤ 5 := by omega
   have i2 : (k : Int) < 11 := by omega
   have d0 := hI.cell (k * 3) (by omega)
   have d1 := hI.cell (k * 3 + 1) (by omega)
   have d2 := hI.cell (k * 3 + 2) (by omega)
   have s0 := hI.free (k * 3) (by omega)
   have s1 := hI.free (k * 3 + 1) (by omega)
   have s2 := hI.free (k * 3 + 2) (by omega)
   have HI1 := Lib.hid hI
   have HB1 := Lib.hid hB
   clear hI hB
   go_wp2_with fail
   go_roundw
   case rel =>
    go_light
    refine ⟨k + 1, by omega, by omega, by go_num, ?_, ?_⟩
    ·have K := (((HI1.out.set (j := k * 3) (by omega) (wcell Wh.nil 0)).set (j := k * 3 + 1) (by omega) (wcell Wh.nil 1)).set (j := k * 3 + 2) (by omega) (wcell Wh.nil 2)).congr (simg_setreg (by omega : k < 11) Wh.nil)
     rw [← vclr_succ _ hk1]
     exact K
    ·exact ((HB1.out.setCell (.inl rfl) _).setCell (.inl rfl) _).setCell (.inl rfl) _
   case measure => simp [intOf]; omega
  ·obtain rfl : k = 6 := by omega
   have HI1 := Lib.hid hI
   have HB1 := Lib.hid hB
   have zb := hI.lt (by omega)
   clear hI hB
   go_wp2_with fail
   refine wp_below_tail 6 (by kernel_rfl) (by kernel_rfl) ?_
   repeat (quiet_step (first | exact CA.out _ _ _ | exact CN.out _ _ _ _ _))
   refine wpQuiet_nil ?_
   intro wq hwq
   have hbq : Below wr.heap.size wr wq := by
    obtain ⟨p, hp⟩ := hwq
    rw [hp]; exact below_regrown _ _ _
   clear hwq
   have IQ := HI1.out.later hbq zb
   have HIQ := Lib.hid IQ
   have HBQ := Lib.hid (HB1.out.trans (But.of hbq))
   have d0 := IQ.cell 0 (by omega)
   have d1 := IQ.cell 1 (by omega)
   have d2 := IQ.cell 2 (by omega)
   have s0 := IQ.free 0 (by omega)
   have s1 := IQ.free 1 (by omega)
   have s2 := IQ.free 2 (by omega)
   clear hbq IQ
   go_wp2_with fail
   go_ret
   refine ⟨rfl, ?_, ?_⟩
   ·have K := (((HIQ.out.set (j := 0) (by omega) (wcell (.num ball) 0)).set (j := 1) (by omega) (wcell (.num ball) 1)).set (j := 2) (by omega) (wcell (.num ball) 2)).congr (simg_setreg (by omega : 0 < 11) (.num ball))
    exact K
   ·exact ((HBQ.out.setCell (.inl rfl) _).setCell (.inl rfl) _).setCell (.inl rfl) _

set_option maxRecDepth 100000 in
set_option maxHeartbeats 4000000 in
theorem VCall_3 (b : Nat) (s : VS) (w : World) (hI : P.Img w b 81 (simg wcell s)) (x : Wh) (hx : s.regs 1 = x) (hk : x.kind = 1) :
  Calls Tryd.prog 65 #[.pointer (some ⟨b, 0, none⟩), .int .i64 3] w fun e w' => e = .returned (.int .i64 0) ∧ P.Img w' b 81 (simg wcell { s with regs := upd (vclr s.regs 6) 0 (vret 3) }) ∧ But b w w' := by
 have HW0 := Lib.hid (Below.refl w.heap.size w)
 have hlt := hI.lt (by omega)
 obtain ⟨c0, c1, c2⟩ := rcells hI (by omega : 1 < 11)
 rw [hx] at c0 c1 c2
 have HI := Lib.hid hI
 clear hI hx
 have q1 := vbeq_yes hk; have q0 := vbeq_no (show x.kind ≠ 0 by omega)
 clear hk
 have CA := Lib.hid (show ∀ wd dr os, Calls Tryd.prog 84 #[] (Go.Sort.grow (redrawn wd dr) os) fun e w' => e = .returned (.agg #[.int .i64 (-9223372036854775808), .int .i64 9223372036854775807]) ∧ ∃ p : Regrown, w' = Go.Sort.grow (redrawn wd p.d) p.os from fun wd dr os => Calls.regrown_of (All_any _))
 have CN := Lib.hid (show ∀ lo hi wd dr os, Calls Tryd.prog 67 #[.agg #[.int .i64 lo, .int .i64 hi]] (Go.Sort.grow (redrawn wd dr) os) fun e w' => e = .returned (.agg #[.int .i64 1, .int .i64 lo, .int .i64 hi]) ∧ ∃ p : Regrown, w' = Go.Sort.grow (redrawn wd p.d) p.os from fun lo hi wd dr os => Calls.regrown_of (VNumber_any lo hi _))
 have CO := Lib.hid (show ∀ wd dr os, Calls Tryd.prog 35 #[.int .i64 0] (Go.Sort.grow (redrawn wd dr) os) fun e w' => e = .returned (.agg #[.int .i64 0, .int .i64 0]) ∧ ∃ p : Regrown, w' = Go.Sort.grow (redrawn wd p.d) p.os from fun wd dr os => Calls.regrown_of (One_any 0 _))
 go_enter Tryd.func65, Tryd.ntmps65
 go_wp2_with fail
 go_loopw [6] (fun i wr => ∃ k : Nat, 1 ≤ k ∧ k ≤ 6 ∧ i = .int .i64 k ∧ P.Img wr b 81 (simg wcell { s with regs := vclr s.regs k }) ∧ But b w wr) (fun i _ => 6 - (intOf i).toNat)
 case atStart => exact ⟨1, by omega, by omega, rfl, by rw [vclr_1]; exact HI.out.alloc _, (by repeat' (first | with_reducible (first | exact (But.of HW0.out) | exact But.refl _ _ | refine But.drew ?_ | refine But.drewN ?_ _ | refine But.alloc ?_ _ | refine But.setCell ?_ ?_ _) | (exact .inl rfl) | (simp; done) | (simp; omega) | omega))⟩
 case round =>
  obtain ⟨k, hk1, hk6, rfl, hI, hB⟩ := hrel
  by_cases h : k ≤ 5
  ·have i1 : (k : Int) ≤ 5 := by omega
   have i2 : (k : Int) < 11 := by omega
   have d0 := hI.cell (k * 3) (by omega)
   have d1 := hI.cell (k * 3 + 1) (by omega)
   have d2 := hI.cell (k * 3 + 2) (by omega)
   have s0 := hI.free (k * 3) (by omega)
   have s1 := hI.free (k * 3 + 1) (by omega)
   have s2 := hI.free (k * 3 + 2) (by omega)
   have HI1 := Lib.hid hI
   have HB1 := Lib.hid hB
   clear hI hB
   go_wp2_with fail
   go_roundw
   case rel =>
    go_light
    refine ⟨k + 1, by omega, by omega, by go_num, ?_, ?_⟩
    ·have K := (((HI1.out.set (j := k * 3) (by omega) (wcell Wh.nil 0)).set (j := k * 3 + 1) (by omega) (wcell Wh.nil 1)).set (j := k * 3 + 2) (by omega) (wcell Wh.nil 2)).congr (simg_setreg (by omega : k < 11) Wh.nil)
     rw [← vclr_succ _ hk1]
     exact K
    ·exact ((HB1.out.setCell (.inl rfl) _).setCell (.inl rfl) _).setCell (.inl rfl) _
   case measure => simp [intOf]; omega
  ·obtain rfl : k = 6 := by omega
   have HI1 := Lib.hid hI
   have HB1 := Lib.hid hB
   have zb := hI.lt (by omega)
   clear hI hB
   go_wp2_with fail
   refine wp_below_tail 6 (by kernel_rfl) (by kernel_rfl) ?_
   repeat (quiet_step (first | exact CA.out _ _ _ | exact CN.out _ _ _ _ _))
   refine wpQuiet_nil ?_
   intro wq hwq
   have hbq : Below wr.heap.size wr wq := by
    obtain ⟨p, hp⟩ := hwq
    rw [hp]; exact below_regrown _ _ _
   clear hwq
   have IQ := HI1.out.later hbq zb
   have HIQ := Lib.hid IQ
   have HBQ := Lib.hid (HB1.out.trans (But.of hbq))
   have d0 := IQ.cell 0 (by omega)
   have d1 := IQ.cell 1 (by omega)
   have d2 := IQ.cell 2 (by omega)
   have s0 := IQ.free 0 (by omega)
   have s1 := IQ.free 1 (by omega)
   have s2 := IQ.free 2 (by omega)
   clear hbq IQ
   go_wp2_with fail
   generalize hW : World.setCell (World.setCell (World.setCell wq _ _) _ _) _ _ = wx
   have K1 : P.Img wx b 81 (simg wcell { s with regs := upd (vclr s.regs 6) 0 (.num ball) }) := by
    rw [← hW]
    have K := (((HIQ.out.set (j := 0) (by omega) (wcell (.num ball) 0)).set (j := 1) (by omega) (wcell (.num ball) 1)).set (j := 2) (by omega) (wcell (.num ball) 2)).congr (simg_setreg (by omega : 0 < 11) (.num ball))
    exact K
   have HK1 := Lib.hid K1
   have HB2 := Lib.hid (show But b w wx from hW ▸ ((HBQ.out.setCell (.inl rfl) _).setCell (.inl rfl) _).setCell (.inl rfl) _)
   clear K1 hW
   clear d0 d1 d2 s0 s1 s2
   have zx := HK1.out.lt (by omega)
   refine wp_below_tail 6 (by kernel_rfl) (by kernel_rfl) ?_
   repeat (quiet_step (first | exact CO.out _ _ _ | exact CN.out _ _ _ _ _))
   refine wpQuiet_nil ?_
   intro wz hwz
   have hbz : Below wx.heap.size wx wz := by
    obtain ⟨p, hp⟩ := hwz
    rw [hp]; exact below_regrown _ _ _
   clear hwz
   have IZ := HK1.out.later hbz zx
   have HIZ := Lib.hid IZ
   have HBZ := Lib.hid (HB2.out.trans (But.of hbz))
   have d0 := IZ.cell 0 (by omega)
   have d1 := IZ.cell 1 (by omega)
   have d2 := IZ.cell 2 (by omega)
   have s0 := IZ.free 0 (by omega)
   have s1 := IZ.free 1 (by omega)
   have s2 := IZ.free 2 (by omega)
   clear hbz IZ
   go_wp2_with fail
   go_ret
   refine ⟨rfl, ?_, ?_⟩
   ·have K := (((HIZ.out.set (j := 0) (by omega) (wcell (.num (bone 0)) 0)).set (j := 1) (by omega) (wcell (.num (bone 0)) 1)).set (j := 2) (by omega) (wcell (.num (bone 0)) 2)).congr (simg_setreg (by omega : 0 < 11) (.num (bone 0)))
    dsimp only at K
    rw [vupd_upd] at K
    exact K
   ·exact ((HBZ.out.setCell (.inl rfl) _).setCell (.inl rfl) _).setCell (.inl rfl) _

theorem VCall_any (b : Nat) (s : VS) (w : World) (hI : P.Img w b 81 (simg wcell s)) (n : Int) (hn : 1 ≤ n ∧ n ≤ 3) :
  Calls Tryd.prog 65 #[.pointer (some ⟨b, 0, none⟩), .int .i64 n] w fun e w' => e = .returned (.int .i64 (s.call n).2) ∧ P.Img w' b 81 (simg wcell (s.call n).1) ∧ But b w w' := by
 have hlt := hI.lt (by omega)
 by_cases h : n = 2 ∨ (s.regs 1).kind = 1
 ·rw [vcall_ok h]
  have hn' : n = 1 ∨ n = 2 ∨ n = 3 := by omega
  rcases hn' with rfl | rfl | rfl
  ·exact VCall_1 b s w hI _ rfl (by omega)
  ·exact VCall_2 b s w hI _ rfl
  ·exact VCall_3 b s w hI _ rfl (by omega)
 ·have e : s.call n = (s, if (s.regs 1).kind = 0 then 8 else 1) := by
   unfold VS.call
   by_cases h0 : (s.regs 1).kind = 0
   ·rw [if_pos ⟨by omega, h0⟩, if_pos h0]
   ·rw [if_neg (by omega), if_pos (by omega), if_neg h0]
  rw [e]
  exact (VCall_err b s w hI n (by omega) _ rfl (by omega)).mono fun e w' h => ⟨h.1, hI.later h.2 hlt, But.of h.2⟩
end Go.Proofs.YtfpoicdfkjbknaaDoor.W
