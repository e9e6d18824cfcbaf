/- The walk of the reference's call: emit. Conditions: the box lies in a block of 109 cells, what was given out in a row of its own. -/
import Derived.Test.YtfpoicdfkjbknaaDoorR5
import Derived.Test.YtfpoicdfkjbknaaDoorT6
namespace Go.Proofs.YtfpoicdfkjbknaaDoor.W
open Go.RowKit Go.Proofs.YtfpoicdfkjbknaaDoor.P
set_option linter.unusedSimpArgs false
set_option linter.unusedVariables false
theorem own_slice' {w : World} {B T n : Nat} {v : Value} {xs : List Value} (h : w.ownsRow B T 1 v n xs) : ∃ og cap, v = .slice og n cap := by
  rcases h.2 with ⟨h1, h2⟩ | ⟨g, cap, cur, h1, -⟩
  · exact ⟨none, 0, by rw [h1, h2]⟩
  · exact ⟨_, _, h1⟩

set_option maxRecDepth 100000 in
set_option maxHeartbeats 4000000 in
theorem RefCall_emit (b : Nat) (told : Nat → Int) (time num st : Int) (M : Mach) (og : Option Addr) (ocap : Nat) (w : World) (hI : Img w b 109 (bimg told time num st (.slice og M.out.length ocap) M)) (xk xn xc : Int) (hx : M.regs 1 = ⟨xk, xn, xc⟩) (h1 : xk = 1) (hO : w.ownsRow (b + 1) 2 1 (.slice og M.out.length ocap) M.out.length (M.out.map (Value.int .i64))) :
    Calls Tryd.prog 41 #[.pointer (some ⟨b, 0, none⟩), .int .i64 3] w fun e w' => e = .returned (.int .i64 0) ∧ (∃ out', Img w' b 109 (bimg told time num st out' (M.call time 3).1) ∧ w'.ownsRow (b + 1) 2 1 out' (M.call time 3).1.out.length ((M.call time 3).1.out.map (Value.int .i64))) ∧ Below b w w' := by
  have HW0 := Lib.hid (Below.refl w.heap.size w)
  have hlt := hI.lt (by omega)
  have c0 := (hI.cell 3 (by omega)).trans (congrArg some ((bimg_at (r := 1) (by omega) (by omega : 0 < 3) (by omega)).trans (rcell_0 _)))
  have c1 := (hI.cell 4 (by omega)).trans (congrArg some ((bimg_at (r := 1) (by omega) (by omega : 1 < 3) (by omega)).trans (rcell_1 _)))
  have c2 := (hI.cell 5 (by omega)).trans (congrArg some ((bimg_at (r := 1) (by omega) (by omega : 2 < 3) (by omega)).trans (rcell_2 _)))
  rw [at_reg (by omega : 1 < 11), hx] at c0 c1 c2
  have f0 := hI.cell 0 (by omega); have f1 := hI.cell 1 (by omega); have f2 := hI.cell 2 (by omega)
  have g0 := hI.free 0 (by omega); have g1 := hI.free 1 (by omega); have g2 := hI.free 2 (by omega)
  have fo : w.cell? ⟨b, 106, none⟩ = some (.slice og M.out.length ocap) := hI.cell 106 (by omega)
  subst h1
  have hfin : (M.call time 3).1 = { M with regs := clr (upd M.regs 0 ⟨1, 0, 0⟩) 6, out := if M.out.length < 50 then M.out ++ [xn] else M.out } := by
    rw [clr_call]
    unfold Mach.call
    rw [hx]
    simp [Val.num]
  have HI := Lib.hid hI
  have HO := Lib.hid hO
  have K := hI.bsetReg (r := 0) (by omega) ⟨1, 0, 0⟩ rfl rfl rfl
  dsimp only at K
  have KB := ((((But.refl b w).setCell (p := ⟨b, 0, none⟩) (.inl rfl) (.int .u8 110)).setCell (p := ⟨b, 1, none⟩) (.inl rfl) (.int .i64 0)).setCell (p := ⟨b, 2, none⟩) (.inl rfl) (.int .i64 0))
  have HK0 := Lib.hid K; have HKB := Lib.hid KB
  clear hI hx K KB hO
  by_cases hl : M.out.length < 50
  · have l1 : (M.out.length : Int) < 50 := by omega
    rw [if_pos hl] at hfin
    have HF := Lib.hid hfin
    clear hfin
    go_enter Tryd.func41, Tryd.ntmps41
    go_wp2_with fail
    generalize hW : World.alloc (World.setCell _ _ _) _ = wd
    have K1 : Img wd b 109 (bimg told time num st (.slice og M.out.length ocap) { M with regs := upd M.regs 0 ⟨1, 0, 0⟩ }) := by rw [← hW]; exact HK0.out.alloc _
    have B1 : But b w wd := by rw [← hW]; exact HKB.out.alloc _
    have O1 : wd.ownsRow (b + 1) 2 1 (.slice og M.out.length ocap) M.out.length (M.out.map (Value.int .i64)) := HO.out.kept B1.grown (by have := HO.out.lt; cases hv : (Value.slice og M.out.length ocap).ownBlock with | none => exact .inl rfl | some g => (right; intro e; have := (this g hv).1; injection e; omega))
    have x1 : wd.cell? ⟨w.heap.size, 1, none⟩ = some (.int .i64 xn) := by rw [← hW]; simp [go_sem]
    have z1 : w.heap.size < wd.heap.size := by rw [← hW]; simp
    have o1 : wd.cell? ⟨b, 106, none⟩ = some (.slice og M.out.length ocap) := K1.cell 106 (by omega)
    clear f1
    have f1 : wd.frozen? ⟨b, 106, none⟩ = false := K1.free 106 (by omega)
    have zb : b < wd.heap.size := by omega
    have own : ∀ g, (Value.slice og M.out.length ocap).ownBlock = some g → b + 1 ≤ g ∧ g < wd.heap.size := O1.lt
    clear hW f0 f2 g0 g1 g2 fo c0 c1 c2
    have NB := Lib.hid (show some b ≠ (Value.slice og M.out.length ocap).ownBlock from fun e => by have := (own b e.symm).1; omega)
    have NW := Lib.hid (show some w.heap.size ≠ (Value.slice og M.out.length ocap).ownBlock from fun e => by have := (HO.out.lt _ e.symm).2; omega)
    have hK1 := Lib.hid K1; have hB1 := Lib.hid B1; have hO1 := Lib.hid O1; have hOwn := Lib.hid own
    clear K1 B1 O1 own
    obtain ⟨i0, hi0, hz0, hz1, hz2⟩ := info_parts infoI64
    go_region_law (first | ((refine step_append_lies _ (by rfl) _ _ _ (by rfl) (b + 1) 2 i0 _ 1 8 Tryd.underlying27 hi0 hz0 hz1 hz2 rfl (by omega) (.slice og M.out.length ocap) M.out.length (M.out.map (Value.int .i64)) (by rfl) ((hO1.out.alloc _).drew) ⟨wd.heap.size, 0, none⟩ 1 1 [.int .i64 xn] (by rfl) (by rfl) (World.news_of_block (cs := #[.int .i64 xn]) (t := 2) (fr := (0, 0)) (heap_alloc_new wd _)) (by simp [Value.oneCell']) (by omega) (by unfold maxLen; omega) (by omega) (by simp; omega) (wd.heap.size + 1) (by simp) ?_; intro gg cap w1 hown1 hgrow hat hlt1; have q0 : w1.cell? ⟨b, 106, none⟩ = some (.slice og M.out.length ocap) := (by rw [hgrow.cell_far _ (by simp; omega) NB.out]; simp [go_sem, o1, zb]); have _q2 : w1.cell? ⟨w.heap.size, 1, none⟩ = some (.int .i64 xn) := (by rw [hgrow.cell_far _ (by simp; omega) NW.out]; simp [go_sem, x1, z1]); have K2 := (Img.drew (Img.alloc hK1.out _)).of_block (hgrow.block b (by simp; omega) NB.out); have HK2 := Lib.hid K2; clear K2; have HB2 := Lib.hid (Below.grown (((hB1.out.below (by omega)).alloc (by omega) _).drew) hgrow (by simp; omega) (fun g hg => by have := (hOwn.out g hg).1; omega)); have HO2 := Lib.hid hown1; clear hown1; have q1 : w1.frozen? ⟨b, 106, none⟩ = false := (by rw [hgrow.frozen_far _ (by simp; omega) NB.out]; simp [go_sem, f1, zb]))))
    all_goals
      go_wp2_with fail
      have HS := Lib.hid (HK2.out.bsetOut (.slice (some ⟨gg, 0, none⟩) (M.out.length + 1) cap) (M.out ++ [xn]))
      have HBs := Lib.hid (HB2.out.setCell (p := ⟨b, 106, none⟩) (Nat.le_refl _) (.slice (some ⟨gg, 0, none⟩) (M.out.length + 1) cap))
      have HOs := Lib.hid (ownsRow_setCell_below (a := ⟨b, 106, none⟩) HO2.out (by simp) (.slice (some ⟨gg, 0, none⟩) (M.out.length + 1) cap))
      generalize World.setCell w1 _ _ = ws at *
      clear q0 q1 _q2 hat hlt1 hgrow HK2 HB2 HO2 x1 o1 f1
      dsimp only at HS
      try simp only [List.map_append, List.map_cons, List.map_nil] at HOs
      go_loopw [6] (fun i wr => ∃ k : Nat, 1 ≤ k ∧ k ≤ 6 ∧ i = .int .i64 k ∧ Img wr b 109 (bimg told time num st (.slice (some ⟨gg, 0, none⟩) (M.out.length + 1) cap) { M with regs := clr (upd M.regs 0 ⟨1, 0, 0⟩) k, out := M.out ++ [xn] }) ∧ Below b w wr ∧ wr.ownsRow (b + 1) 2 1 (.slice (some ⟨gg, 0, none⟩) (M.out.length + 1) cap) (M.out.length + 1) (List.map (Value.int .i64) (M.out ++ [xn]))) (fun i _ => 6 - (intOf i).toNat)
      case atStart => exact ⟨1, by omega, by omega, rfl, by rw [clr_1]; exact HS.out, HBs.out, by rw [List.map_append]; exact HOs.out⟩
      case round =>
        obtain ⟨k, hk1, hk6, rfl, hI, hB, hO⟩ := hrel
        by_cases h : k ≤ 5
        · have i1 : (k : Int) ≤ 5 := by omega
          have i2 : (k : Int) < 27 := by omega
          have d0 := hI.cell (k * 3) (by omega)
          have d1 := hI.cell (k * 3 + 1) (by omega)
          have d2 := hI.cell (k * 3 + 2) (by omega)
          have s0 := hI.free (k * 3) (by omega)
          have s1 := hI.free (k * 3 + 1) (by omega)
          have s2 := hI.free (k * 3 + 2) (by omega)
          have HI1 := Lib.hid hI
          have HB1 := Lib.hid hB
          have HO1 := Lib.hid hO
          clear hI hB hO
          go_wp2_with fail
          go_roundw
          case rel =>
            go_light
            refine ⟨k + 1, by omega, by omega, by go_num, ?_, ?_, ?_⟩
            · rw [← clr_succ _ hk1]
              exact HI1.out.bsetReg (by omega : k < 11) Val.none rfl rfl rfl
            · exact ((HB1.out.setCell (Nat.le_refl _) _).setCell (Nat.le_refl _) _).setCell (Nat.le_refl _) _
            · exact ownsRow_setCell_below (ownsRow_setCell_below (ownsRow_setCell_below HO1.out (by simp) _) (by simp) _) (by simp) _
          case measure => simp [intOf]; omega
        · obtain rfl : k = 6 := by omega
          have HI1 := Lib.hid hI
          have HB1 := Lib.hid hB
          have HO1 := Lib.hid hO
          clear hI hB hO
          go_wp2_with fail
          go_ret
          refine ⟨rfl, ⟨.slice (some ⟨gg, 0, none⟩) (M.out.length + 1) cap, ?_, ?_⟩, HB1.out⟩
          · rw [HF.out]
            exact HI1.out
          · rw [HF.out]
            first | exact HO1.out | (simp only [List.length_append, List.length_cons, List.length_nil, Nat.zero_add]; exact HO1.out)
  · have l1 : ¬ (M.out.length : Int) < 50 := by omega
    rw [if_neg hl] at hfin
    have HF := Lib.hid hfin
    clear hfin
    go_enter Tryd.func41, Tryd.ntmps41
    go_wp2_with fail
    generalize hW : World.alloc (World.setCell _ _ _) _ = ws
    have K1 : Img ws b 109 (bimg told time num st (.slice og M.out.length ocap) { M with regs := upd M.regs 0 ⟨1, 0, 0⟩ }) := by rw [← hW]; exact HK0.out.alloc _
    have B1 : But b w ws := by rw [← hW]; exact HKB.out.alloc _
    have O1 : ws.ownsRow (b + 1) 2 1 (.slice og M.out.length ocap) M.out.length (M.out.map (Value.int .i64)) := HO.out.kept B1.grown (by have := HO.out.lt; cases hv : (Value.slice og M.out.length ocap).ownBlock with | none => exact .inl rfl | some g => (right; intro e; have := (this g hv).1; injection e; omega))
    have HS := Lib.hid K1
    have HBs := Lib.hid (B1.below (by omega))
    have HOs := Lib.hid O1
    clear hW K1 B1 O1 f0 f1 f2 g0 g1 g2 fo c0 c1 c2
    go_loopw [6] (fun i wr => ∃ k : Nat, 1 ≤ k ∧ k ≤ 6 ∧ i = .int .i64 k ∧ Img wr b 109 (bimg told time num st (.slice og M.out.length ocap) { M with regs := clr (upd M.regs 0 ⟨1, 0, 0⟩) k, out := M.out }) ∧ Below b w wr ∧ wr.ownsRow (b + 1) 2 1 (.slice og M.out.length ocap) (M.out.length) (List.map (Value.int .i64) (M.out))) (fun i _ => 6 - (intOf i).toNat)
    case atStart => exact ⟨1, by omega, by omega, rfl, by rw [clr_1]; exact HS.out, HBs.out, HOs.out⟩
    case round =>
      obtain ⟨k, hk1, hk6, rfl, hI, hB, hO⟩ := hrel
      by_cases h : k ≤ 5
      · have i1 : (k : Int) ≤ 5 := by omega
        have i2 : (k : Int) < 27 := by omega
        have d0 := hI.cell (k * 3) (by omega)
        have d1 := hI.cell (k * 3 + 1) (by omega)
        have d2 := hI.cell (k * 3 + 2) (by omega)
        have s0 := hI.free (k * 3) (by omega)
        have s1 := hI.free (k * 3 + 1) (by omega)
        have s2 := hI.free (k * 3 + 2) (by omega)
        have HI1 := Lib.hid hI
        have HB1 := Lib.hid hB
        have HO1 := Lib.hid hO
        clear hI hB hO
        go_wp2_with fail
        go_roundw
        case rel =>
          go_light
          refine ⟨k + 1, by omega, by omega, by go_num, ?_, ?_, ?_⟩
          · rw [← clr_succ _ hk1]
            exact HI1.out.bsetReg (by omega : k < 11) Val.none rfl rfl rfl
          · exact ((HB1.out.setCell (Nat.le_refl _) _).setCell (Nat.le_refl _) _).setCell (Nat.le_refl _) _
          · exact ownsRow_setCell_below (ownsRow_setCell_below (ownsRow_setCell_below HO1.out (by simp) _) (by simp) _) (by simp) _
        case measure => simp [intOf]; omega
      · obtain rfl : k = 6 := by omega
        have HI1 := Lib.hid hI
        have HB1 := Lib.hid hB
        have HO1 := Lib.hid hO
        clear hI hB hO
        go_wp2_with fail
        go_ret
        refine ⟨rfl, ⟨.slice og M.out.length ocap, ?_, ?_⟩, HB1.out⟩
        · rw [HF.out]
          exact HI1.out
        · rw [HF.out]
          first | exact HO1.out | (simp only [List.length_append, List.length_cons, List.length_nil, Nat.zero_add]; exact HO1.out)
end Go.Proofs.YtfpoicdfkjbknaaDoor.W
