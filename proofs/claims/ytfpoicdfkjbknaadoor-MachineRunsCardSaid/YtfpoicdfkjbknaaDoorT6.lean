/- The walk of machine.call: emit; load, store and call by contract. Conditions: the machine lies in a block of 108 cells, what was given out in a row of its own. -/
import Derived.Test.YtfpoicdfkjbknaaDoorT5
import Derived.Deep.RegionLaw
namespace Go.Proofs.YtfpoicdfkjbknaaDoor.W
open Go.RowKit Go.Proofs.YtfpoicdfkjbknaaDoor.P
set_option linter.unusedSimpArgs false
set_option linter.unusedVariables false

theorem infoI64 : (Tryd.prog.info? 2).map (fun i => (i.zero, i.size, i.bytes)) = some (some (.int .i64 0), 1, 8) := by kernel_rfl

set_option maxRecDepth 100000 in
set_option maxHeartbeats 1000000 in
theorem Call_emit (b : Nat) (code : Value) (told : Nat → Int) (time : Int) (out : Value) (M : Mach) (w : World) (hI : Img w b 108 (mimg code told time out M)) (hO : w.ownsRow (b + 1) 2 1 out M.out.length (M.out.map (Value.int .i64))) (xn xc : Int) (hx : M.regs 1 = ⟨1, xn, xc⟩) :
    Calls Tryd.prog 23 #[.pointer (some ⟨b, 0, none⟩), .int .i64 3] w fun e w' => e = .returned (.int .i64 0) ∧ (∃ out', Img w' b 108 (mimg code told time out' (M.call time 3).1) ∧ w'.ownsRow (b + 1) 2 1 out' (M.call time 3).1.out.length ((M.call time 3).1.out.map (Value.int .i64))) ∧ Below b w w' := by
  have HW0 := Lib.hid (Below.refl w.heap.size w)
  have HO := Lib.hid hO
  clear hO
  obtain ⟨og, ocap, hog⟩ : ∃ og ocap, out = .slice og M.out.length ocap := by
    rcases HO.out.2 with ⟨h1, h2⟩ | ⟨g, cap, cur, h1, -⟩
    · exact ⟨none, 0, by rw [h1, h2]⟩
    · exact ⟨_, _, h1⟩
  subst hog
  have hlt := hI.lt (by omega)
  have c0 := (hI.cell 4 (by omega)).trans (congrArg some ((mimg_reg (by omega : 1 < 11) (by omega : 0 < 3) (by omega)).trans (vcell_0 _)))
  have c1 := (hI.cell 5 (by omega)).trans (congrArg some ((mimg_reg (by omega : 1 < 11) (by omega : 1 < 3) (by omega)).trans (vcell_1 _)))
  have c2 := (hI.cell 6 (by omega)).trans (congrArg some ((mimg_reg (by omega : 1 < 11) (by omega : 2 < 3) (by omega)).trans (vcell_2 _)))
  rw [hx] at c0 c1 c2
  have hfin : { M with regs := upd (clr M.regs 6) 0 (.num 0), out := if M.out.length < 50 then M.out ++ [xn] else M.out } = (M.call time 3).1 := by
    have e : (M.call time 3).1 = ⟨fun j => if j = 0 then .num 0 else if 1 ≤ j ∧ j ≤ 5 then .none else M.regs j, M.slots, M.cells, if M.out.length < 50 then M.out ++ [xn] else M.out⟩ := by
      unfold Mach.call
      rw [hx]
      simp [Val.num]
    rw [e]
    congr 1
    funext j
    by_cases h : j = 0
    · subst h; rw [upd_same]; rfl
    · rw [upd_other h, if_neg h]; unfold clr; simp only [Nat.lt_succ_iff]
  rw [← hfin]
  simp only
  clear hfin
  have HI := Lib.hid hI
  have HX := Lib.hid hx
  clear hI hx
  go_enter Tryd.func23, Tryd.ntmps23
  go_wp2_with fail
  go_loopw [6] (fun i wr => ∃ k : Nat, 1 ≤ k ∧ k ≤ 6 ∧ i = .int .i64 k ∧ Img wr b 108 (mimg code told time (.slice og M.out.length ocap) { M with regs := clr M.regs k }) ∧ But b w wr ∧ wr.cell? ⟨w.heap.size, 1, none⟩ = some (.int .i64 xn) ∧ w.heap.size < wr.heap.size) (fun i _ => 6 - (intOf i).toNat)
  case atStart => exact ⟨1, by omega, by omega, rfl, by rw [clr_1]; exact HI.out.alloc _, (by repeat' (first | with_reducible exact (But.of HW0.out) | with_reducible exact But.refl _ _ | with_reducible refine But.drew ?_ | with_reducible refine But.drewN ?_ _ | with_reducible refine But.alloc ?_ _ | with_reducible refine But.setCell ?_ ?_ _ | (exact .inl rfl) | (simp; done) | (simp; omega) | omega)), by simp [go_sem], by simp⟩
  case round =>
    obtain ⟨k, hk1, hk6, rfl, hI, hB, hx, hz⟩ := hrel
    have hne : ¬ w.heap.size = b := by omega
    have hne2 : ¬ b = w.heap.size := by omega
    by_cases h : k ≤ 5
    · have i1 : (k : Int) ≤ 5 := by omega
      have i2 : (k : Int) < 11 := by omega
      have d0 := hI.cell (1 + k * 3) (by omega)
      have d1 := hI.cell (1 + k * 3 + 1) (by omega)
      have d2 := hI.cell (1 + k * 3 + 2) (by omega)
      have s0 := hI.free (1 + k * 3) (by omega)
      have s1 := hI.free (1 + k * 3 + 1) (by omega)
      have s2 := hI.free (1 + k * 3 + 2) (by omega)
      have HI1 := Lib.hid hI
      have HB1 := Lib.hid hB
      clear hI hB
      go_wp2_with fail
      go_roundw
      case rel =>
        go_light
        refine ⟨k + 1, by omega, by omega, by go_num, ?_, ?_, ?_, ?_⟩
        · have K := (((HI1.out.set (j := 1 + k * 3) (by omega) (vcell Val.none 0)).set (j := 1 + k * 3 + 1) (by omega) (vcell Val.none 1)).set (j := 1 + k * 3 + 2) (by omega) (vcell Val.none 2)).congr (mimg_setreg (by omega : k < 11) Val.none)
          rw [← clr_succ _ hk1]
          exact K
        · exact ((HB1.out.setCell (.inl rfl) _).setCell (.inl rfl) _).setCell (.inl rfl) _
        · simp [go_sem, hne, hne2, hx]
        · simpa using hz
      case measure => simp [intOf]; omega
    · obtain rfl : k = 6 := by omega
      have d0 := hI.cell 1 (by omega)
      have d1 := hI.cell 2 (by omega)
      have d2 := hI.cell 3 (by omega)
      have s0 := hI.free 1 (by omega)
      have s1 := hI.free 2 (by omega)
      have s2 := hI.free 3 (by omega)
      have HI1 := Lib.hid hI
      have HB1 := Lib.hid hB
      clear hI hB
      have d7 : wr.cell? ⟨b, 107, none⟩ = some (.slice og M.out.length ocap) := HI1.out.cell 107 (by omega)
      have K0 := HI1.out.setReg (r := 0) (by omega) 1 0 0 rfl rfl rfl
      have B0 := ((HB1.out.setCell (p := ⟨b, 1, none⟩) (.inl rfl) (.int .i64 1)).setCell (p := ⟨b, 2, none⟩) (.inl rfl) (.int .i64 0)).setCell (p := ⟨b, 3, none⟩) (.inl rfl) (.int .i64 0)
      have O0 := HO.out.kept B0.grown (by have := HO.out.lt; cases hv : (Value.slice og M.out.length ocap).ownBlock with | none => exact .inl rfl | some g => (right; intro e; have := (this g hv).1; injection e; omega))
      have HK0 := Lib.hid K0; have HB0 := Lib.hid B0; have HO0 := Lib.hid O0
      clear K0 B0 O0
      by_cases hl : M.out.length < 50
      · have l1 : (M.out.length : Int) < 50 := by omega
        go_wp2_with fail
        generalize hW : World.setCell (World.setCell (World.setCell wr _ _) _ _) _ _ = wd
        have K1 : Img wd b 108 (mimg code told time (.slice og M.out.length ocap) { M with regs := upd (clr M.regs 6) 0 ⟨1, 0, 0⟩ }) := by rw [← hW]; exact HK0.out
        have B1 : But b w wd := by rw [← hW]; exact HB0.out
        have O1 : wd.ownsRow (b + 1) 2 1 (.slice og M.out.length ocap) M.out.length (M.out.map (Value.int .i64)) := by rw [← hW]; exact HO0.out
        have x1 : wd.cell? ⟨w.heap.size, 1, none⟩ = some (.int .i64 xn) := by rw [← hW]; simp [go_sem, hne, hne2, hx]
        have z1 : w.heap.size < wd.heap.size := by rw [← hW]; simpa using hz
        have o1 : wd.cell? ⟨b, 107, none⟩ = some (.slice og M.out.length ocap) := K1.cell 107 (by omega)
        have f1 : wd.frozen? ⟨b, 107, none⟩ = false := K1.free 107 (by omega)
        have zb : b < wd.heap.size := by omega
        have own : ∀ g, (Value.slice og M.out.length ocap).ownBlock = some g → b + 1 ≤ g ∧ g < wd.heap.size := O1.lt
        clear hW d7 d0 d1 d2 s0 s1 s2 hx hz
        have NB := Lib.hid (show some b ≠ (Value.slice og M.out.length ocap).ownBlock from fun e => by have := (own b e.symm).1; omega)
        have NW := Lib.hid (show some w.heap.size ≠ (Value.slice og M.out.length ocap).ownBlock from fun e => by have := (HO.out.lt _ e.symm).2; omega)
        have hK1 := Lib.hid K1; have hB1 := Lib.hid B1; have hO1 := Lib.hid O1; have hOwn := Lib.hid own
        clear K1 B1 O1 own
        obtain ⟨i0, hi0, hz0, hz1, hz2⟩ := info_parts infoI64
        go_region_law (first | ((refine step_append_lies _ (by rfl) _ _ _ (by rfl) (b + 1) 2 i0 _ 1 8 Tryd.underlying27 hi0 hz0 hz1 hz2 rfl (by omega) (.slice og M.out.length ocap) M.out.length (M.out.map (Value.int .i64)) (by rfl) ((hO1.out.alloc _).drew) ⟨wd.heap.size, 0, none⟩ 1 1 [.int .i64 xn] (by rfl) (by rfl) (World.news_of_block (cs := #[.int .i64 xn]) (t := 2) (fr := (0, 0)) (heap_alloc_new wd _)) (by simp [Value.oneCell']) (by omega) (by unfold maxLen; omega) (by omega) (by simp; omega) (wd.heap.size + 1) (by simp) ?_; intro gg cap w1 hown1 hgrow hat hlt1; have q0 : w1.cell? ⟨b, 107, none⟩ = some (.slice og M.out.length ocap) := (by rw [hgrow.cell_far _ (by simp; omega) NB.out]; simp [go_sem, o1, zb]); have _q2 : w1.cell? ⟨w.heap.size, 1, none⟩ = some (.int .i64 xn) := (by rw [hgrow.cell_far _ (by simp; omega) NW.out]; simp [go_sem, x1, z1]); have K2 := (Img.drew (Img.alloc hK1.out _)).of_block (hgrow.block b (by simp; omega) NB.out); have HK2 := Lib.hid K2; clear K2; have HB2 := Lib.hid (Below.grown (((hB1.out.below (by omega)).alloc (by omega) _).drew) hgrow (by simp; omega) (fun g hg => by have := (hOwn.out g hg).1; omega)); have HO2 := Lib.hid hown1; clear hown1; have q1 : w1.frozen? ⟨b, 107, none⟩ = false := (by rw [hgrow.frozen_far _ (by simp; omega) NB.out]; simp [go_sem, f1, zb]))))
        all_goals
          go_wp2_with fail
          go_ret
          refine ⟨rfl, ⟨.slice (some ⟨gg, 0, none⟩) (M.out.length + 1) cap, ?_, ?_⟩, ?_⟩
          · try simp only [if_pos hl]
            unfold Val.num
            with_reducible exact HK2.out.setOut _ (M.out ++ [xn])
          · try simp only [if_pos hl]
            try rw [show (M.out ++ [xn]).length = M.out.length + 1 by simp]
            try rw [List.map_append]
            with_reducible exact ownsRow_setCell_below HO2.out (by simp) _
          · with_reducible exact HB2.out.setCell (Nat.le_refl _) _
      · have l1 : ¬ (M.out.length : Int) < 50 := by omega
        go_wp2_with fail
        go_ret
        refine ⟨rfl, ⟨.slice og M.out.length ocap, ?_, ?_⟩, ?_⟩
        · try simp only [if_neg hl]
          unfold Val.num
          with_reducible exact HK0.out
        · try simp only [if_neg hl]
          with_reducible exact HO0.out
        · with_reducible exact HB0.out.below (by omega)
theorem MacAt.ge {w : World} {b : Nat} {code : Value} {told : Nat → Int} {time : Int} {M : Mach} (h : MacAt w b code told time M) : b < w.heap.size := by
  obtain ⟨out, hI, -⟩ := h
  exact hI.lt (by omega)
theorem MacAt.but {w w' : World} {b : Nat} {code : Value} {told : Nat → Int} {time : Int} {M M' : Mach} {out : Value} (hO : w.ownsRow (b + 1) 2 1 out M.out.length (M.out.map (Value.int .i64))) (hB : But b w w') (hI : Img w' b 108 (mimg code told time out M')) (ho : M'.out = M.out) : MacAt w' b code told time M' := by
  refine ⟨out, hI, ?_⟩
  rw [ho]
  exact hO.kept hB.grown (by have := hO.lt; cases hv : out.ownBlock with | none => exact .inl rfl | some g => (right; intro e; have := (this g hv).1; injection e; omega))
theorem MacAt.later {w w' : World} {b : Nat} {code : Value} {told : Nat → Int} {time : Int} {M : Mach} (h : MacAt w b code told time M) (hb : Below w.heap.size w w') : MacAt w' b code told time M := by
  obtain ⟨out, hI, hO⟩ := h
  exact MacAt.but hO (But.of hb) (hI.later hb (hI.lt (by omega))) rfl

theorem Load_any (b : Nat) (code : Value) (told : Nat → Int) (time : Int) (out : Value) (M : Mach) (w : World) (hI : Img w b 108 (mimg code told time out M)) (v : Val) (hv : VOk v) (o : Int) :
    Calls Tryd.prog 20 #[.pointer (some ⟨b, 0, none⟩), .agg #[.int .i64 v.kind, .int .i64 v.n, .int .i64 v.cell], .int .i64 o] w fun e w' =>
      e = .returned (.tuple #[.agg #[.int .i64 (M.load told v o).1.kind, .int .i64 (M.load told v o).1.n, .int .i64 (M.load told v o).1.cell], .int .i64 (M.load told v o).2]) ∧ Below w.heap.size w w' := by
  obtain ⟨⟨k, er⟩, hke⟩ : ∃ x, P.far v o = x := ⟨_, rfl⟩
  by_cases he : er = 0
  · subst he
    have h0 : (P.far v o).2 = 0 := by rw [hke]
    obtain ⟨k0, k1⟩ := far_kind h0
    have hr := far_ok h0 ⟨k0, k1⟩
    obtain ⟨kind, n, cell⟩ := v
    obtain ⟨hk, hc⟩ := hv
    simp only at hk hc k0 k1 hr
    have hk2 : kind = 2 ∨ kind = 3 ∨ kind = 4 := by omega
    rw [hke] at hr
    rcases hk2 with rfl | rfl | rfl
    · simp only [low, high] at hr
      obtain ⟨q, rfl⟩ := Int.eq_ofNat_of_zero_le (show 0 ≤ k by simp at hr; omega)
      have e : M.load told ⟨2, n, cell⟩ o = (.num (told q), 0) := by unfold Mach.load; rw [hke]; simp
      rw [e]
      exact Load_ctx b code told time out M w hI n cell o q (by simp at hr; omega) hke
    · simp only [low, high] at hr
      obtain ⟨q, hq⟩ := Int.eq_ofNat_of_zero_le (show 0 ≤ k + 16 by simp at hr; omega)
      obtain rfl : k = (q : Int) - 16 := by omega
      have e : M.load told ⟨3, n, cell⟩ o = (if (M.slots q).kind = 0 then (.none, 8) else (M.slots q, 0)) := by unfold Mach.load; rw [hke]; simp
      rw [e]
      have := Load_slot b code told time out M w hI n o cell q (by simp at hr; omega) hke
      by_cases hz : (M.slots q).kind = 0
      · simpa [hz, Val.none] using this
      · simpa [hz] using this
    · simp only [low, high] at hr
      obtain ⟨q, rfl⟩ := Int.eq_ofNat_of_zero_le (show 0 ≤ k by simp at hr; omega)
      have hcc := hc rfl
      obtain ⟨cc, rfl⟩ := Int.eq_ofNat_of_zero_le hcc.1
      have e : M.load told ⟨4, n, cc⟩ o = (.num (M.cells (cc * 4 + q)), 0) := by
        unfold Mach.load; rw [hke]; simp
        rw [show ((cc : Int) * 4 + (q : Int)).toNat = cc * 4 + q by omega]
      rw [e]
      exact Load_cell b code told time out M w hI n o cc q (by omega) (by simp at hr; omega) hke
  · have e : M.load told v o = (.none, er) := by unfold Mach.load; rw [hke]; simp [he]
    rw [e]
    exact Load_err b told M w v hv o k er hke he

theorem Store_any (b : Nat) (code : Value) (told : Nat → Int) (time : Int) (M : Mach) (w : World) (hM : MacAt w b code told time M) (v : Val) (hv : VOk v) (o : Int) (x : Val) (hx : VOk x) :
    Calls Tryd.prog 21 #[.pointer (some ⟨b, 0, none⟩), .agg #[.int .i64 v.kind, .int .i64 v.n, .int .i64 v.cell], .int .i64 o, .agg #[.int .i64 x.kind, .int .i64 x.n, .int .i64 x.cell]] w fun e w' =>
      e = .returned (.int .i64 (M.store v o x).2) ∧ MacAt w' b code told time (M.store v o x).1 ∧ Below b w w' := by
  have hlt := hM.ge
  have hM0 := hM
  obtain ⟨out, hI, hO⟩ := hM
  obtain ⟨⟨k, er⟩, hke⟩ : ∃ x, P.far v o = x := ⟨_, rfl⟩
  by_cases hs : (er ≠ 0 ∧ (M.store v o x) = (M, er)) ∨ (er = 0 ∧ v.kind = 2 ∧ (M.store v o x) = (M, 6)) ∨ (er = 0 ∧ v.kind ≠ 2 ∧ x.kind = 0 ∧ (M.store v o x) = (M, 8)) ∨ (er = 0 ∧ v.kind ≠ 2 ∧ x.kind ≠ 0 ∧ v.kind ≠ 3 ∧ x.kind ≠ 1 ∧ (M.store v o x) = (M, 1))
  · obtain ⟨r, hr, hc⟩ : ∃ r, M.store v o x = (M, r) ∧ ((er ≠ 0 ∧ r = er) ∨ (er = 0 ∧ v.kind = 2 ∧ r = 6) ∨ (er = 0 ∧ v.kind ≠ 2 ∧ x.kind = 0 ∧ r = 8) ∨ (er = 0 ∧ v.kind ≠ 2 ∧ x.kind ≠ 0 ∧ v.kind ≠ 3 ∧ x.kind ≠ 1 ∧ r = 1)) := by
      rcases hs with ⟨h1, h⟩ | ⟨h1, h2, h⟩ | ⟨h1, h2, h3, h⟩ | ⟨h1, h2, h3, h4, h5, h⟩
      · exact ⟨_, h, .inl ⟨h1, rfl⟩⟩
      · exact ⟨_, h, .inr (.inl ⟨h1, h2, rfl⟩)⟩
      · exact ⟨_, h, .inr (.inr (.inl ⟨h1, h2, h3, rfl⟩))⟩
      · exact ⟨_, h, .inr (.inr (.inr ⟨h1, h2, h3, h4, h5, rfl⟩))⟩
    rw [hr]
    exact (Store_same b w v x hv o k er r hke hc).mono fun e w' ⟨he, hb⟩ => ⟨he, hM0.later hb, hb.mono (Nat.le_of_lt hlt)⟩
  · have st : M.store v o x = if er ≠ 0 then (M, er) else if v.kind = 2 then (M, 6) else if x.kind = 0 then (M, 8) else if v.kind = 3 then ({ M with slots := upd M.slots (k + 16).toNat x }, 0) else if x.kind ≠ 1 then (M, 1) else ({ M with cells := upd M.cells (v.cell * 4 + k).toNat x.n }, 0) := by
      unfold Mach.store; rw [hke]
    rw [st] at hs ⊢
    by_cases he : er = 0
    rotate_left
    · exact absurd (.inl ⟨he, by rw [if_pos he]⟩) hs
    subst he
    rw [if_neg (by simp)] at hs ⊢
    by_cases h2 : v.kind = 2
    · exact absurd (.inr (.inl ⟨rfl, h2, by rw [if_pos h2]⟩)) hs
    rw [if_neg h2] at hs ⊢
    by_cases h3 : x.kind = 0
    · exact absurd (.inr (.inr (.inl ⟨rfl, h2, h3, by rw [if_pos h3]⟩))) hs
    rw [if_neg h3] at hs ⊢
    have h0 : (P.far v o).2 = 0 := by rw [hke]
    obtain ⟨k0, k1⟩ := far_kind h0
    have hr := far_ok h0 ⟨k0, k1⟩
    rw [hke] at hr
    by_cases h4 : v.kind = 3
    · rw [if_pos h4]
      obtain ⟨kind, n, cell⟩ := v
      simp only at h4
      subst h4
      simp only [low, high] at hr
      obtain ⟨q, hq⟩ := Int.eq_ofNat_of_zero_le (show 0 ≤ k + 16 by simp at hr; omega)
      obtain rfl : k = (q : Int) - 16 := by omega
      rw [show ((q : Int) - 16 + 16).toNat = q by omega]
      exact (Store_slot b code told time out M w hI n o cell x h3 q (by simp at hr; omega) hke).mono fun e w' ⟨he, hi, hb⟩ => ⟨he, MacAt.but hO hb hi rfl, hb.below (Nat.le_of_lt hlt)⟩
    rw [if_neg h4] at hs ⊢
    by_cases h5 : x.kind = 1
    rotate_left
    · exact absurd (.inr (.inr (.inr ⟨rfl, h2, h3, h4, h5, by rw [if_pos h5]⟩))) hs
    rw [if_neg (by simp [h5])]
    obtain ⟨kind, n, cell⟩ := v
    obtain ⟨xk, xn, xc⟩ := x
    obtain ⟨hk, hc⟩ := hv
    simp only at hk hc k0 k1 hr h2 h4 h5
    obtain rfl : kind = 4 := by omega
    subst h5
    simp only [low, high] at hr
    obtain ⟨q, rfl⟩ := Int.eq_ofNat_of_zero_le (show 0 ≤ k by simp at hr; omega)
    have hcc := hc rfl
    obtain ⟨cc, rfl⟩ := Int.eq_ofNat_of_zero_le hcc.1
    simp only
    rw [show ((cc : Int) * 4 + (q : Int)).toNat = cc * 4 + q by omega]
    exact (Store_cell b code told time out M w hI n o xn xc cc q (by omega) (by simp at hr; omega) hke).mono fun e w' ⟨he, hi, hb⟩ => ⟨he, MacAt.but hO hb hi rfl, hb.below (Nat.le_of_lt hlt)⟩

theorem Call_any (b : Nat) (code : Value) (told : Nat → Int) (time : Int) (M : Mach) (w : World) (hM : MacAt w b code told time M) (n : Int) (hn : n = 1 ∨ n = 2 ∨ n = 3) :
    Calls Tryd.prog 23 #[.pointer (some ⟨b, 0, none⟩), .int .i64 n] w fun e w' => e = .returned (.int .i64 (M.call time n).2) ∧ MacAt w' b code told time (M.call time n).1 ∧ Below b w w' := by
  have hlt := hM.ge
  have hM0 := hM
  obtain ⟨out, hI, hO⟩ := hM
  by_cases h : n ≠ 2 ∧ (M.regs 1).kind ≠ 1
  · have e : M.call time n = (M, if (M.regs 1).kind = 0 then 8 else 1) := by
      unfold Mach.call
      by_cases k0 : (M.regs 1).kind = 0
      · rw [if_pos ⟨h.1, k0⟩, if_pos k0]
      · rw [if_neg (fun x => k0 x.2), if_pos h, if_neg k0]
    rw [e]
    exact (Call_err b code told time out M w hI n h.1 (M.regs 1) rfl h.2).mono fun e w' ⟨he, hb⟩ => ⟨he, hM0.later hb, hb.mono (Nat.le_of_lt hlt)⟩
  · have e0 : (M.call time n).2 = 0 := by
      unfold Mach.call
      rw [if_neg (by omega), if_neg h]
    rw [e0]
    have eo : n ≠ 3 → (M.call time n).1.out = M.out := by
      intro h3
      unfold Mach.call
      rw [if_neg (by omega), if_neg h]
      simp only
      rw [if_neg (by omega)]
    have h1 : n ≠ 2 → M.regs 1 = ⟨1, (M.regs 1).n, (M.regs 1).cell⟩ := fun h2 => by
      have : (M.regs 1).kind = 1 := by omega
      rw [← this]
    rcases hn with rfl | rfl | rfl
    · exact (Call_find b code told time out M w hI _ _ (h1 (by decide))).mono fun e w' ⟨he, hi, hb⟩ => ⟨he, MacAt.but hO hb hi (eo (by decide)), hb.below (Nat.le_of_lt hlt)⟩
    · exact (Call_time b code told time out M w hI _ _ _ rfl).mono fun e w' ⟨he, hi, hb⟩ => ⟨he, MacAt.but hO hb hi (eo (by decide)), hb.below (Nat.le_of_lt hlt)⟩
    · exact (Call_emit b code told time out M w hI hO _ _ (h1 (by decide))).mono fun e w' ⟨he, hi, hb⟩ => ⟨he, hi, hb⟩

end Go.Proofs.YtfpoicdfkjbknaaDoor.W
