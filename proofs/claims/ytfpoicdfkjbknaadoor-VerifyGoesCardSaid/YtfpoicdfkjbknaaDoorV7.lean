/- The walk of verify.asks (the ways of a step that asks), as far as its two operands: definitions, and laws on the walker's block. Conditions: the program's cells are known; what is known lies in a block of 81 cells. -/
import Derived.Test.YtfpoicdfkjbknaaDoorV6
import Derived.Test.YtfpoicdfkjbknaaDoorWalkBound3
import Derived.Test.YtfpoicdfkjbknaaDoorWalkCheck
import Derived.Test.YtfpoicdfkjbknaaDoorVHelp
import Derived.Test.YtfpoicdfkjbknaaDoorMidQuiet
import Derived.Deep.CutBlock
import Derived.Deep.DeepCutAuto
import Derived.Deep.LoopGhost
namespace Go.Proofs.YtfpoicdfkjbknaaDoor.W
open Go.RowKit Go.Proofs.YtfpoicdfkjbknaaDoor.P
set_option linter.unusedSimpArgs false
set_option linter.unusedVariables false

theorem wcells {w : World} {b : Nat} {v : Wh} (hI : P.Img w b 3 (wcell v)) : w.cell? ⟨b, 0, none⟩ = some (.int .i64 v.kind) ∧ w.cell? ⟨b, 1, none⟩ = some (.int .i64 v.b.lo) ∧ w.cell? ⟨b, 2, none⟩ = some (.int .i64 v.b.hi) :=
 ⟨hI.cell 0 (by omega), hI.cell 1 (by omega), hI.cell 2 (by omega)⟩
theorem w3 {w : World} {b : Nat} {v : Wh} {I : Nat → Value} (hI : P.Img w b 3 I) : P.Img (((w.setCell ⟨b, 0, none⟩ (.int .i64 v.kind)).setCell ⟨b, 1, none⟩ (.int .i64 v.b.lo)).setCell ⟨b, 2, none⟩ (.int .i64 v.b.hi)) b 3 (wcell v) := by
 refine (((hI.set (j := 0) (by omega) _).set (j := 1) (by omega) _).set (j := 2) (by omega) _).congr fun j hj => ?_
 rcases j with _ | _ | _ | j
 ·rfl
 ·rfl
 ·rfl
 ·omega
/-- the walker's five cells -/
def wimg (code : Value) (k : Wk) : Nat → Value := fun j => if j = 0 then code else if j = 1 then .int .i64 k.looks else if j = 2 then .bool (!k.ends.isEmpty) else if j = 3 then .int .i64 (outOf k.ends).lo else .int .i64 (outOf k.ends).hi
/-- what comes of ways: the error, the walker behind them -/
def VPost (b : Nat) (code : Value) (w : World) (r : VR) (e : Ending) (w' : World) : Prop := ∃ v, e = .returned v ∧ ErrIs w' v r.1.1 r.1.2 ∧ P.Img w' b 5 (wimg code r.2) ∧ But b w w'
/-- the contract of walk with so much fuel -/
def WalkC (S : Nat → Step) (a : Addr) (n cap b f : Nat) : Prop := ∀ (s : VS) (pc : Nat) (k : Wk) (w : World), VSOk s → pc < n → n ≤ pc + f → 0 ≤ k.looks → k.looks ≤ 4000 → (∀ e ∈ k.ends, e.Ok) → Cells w a S n →
 P.Img w b 5 (wimg (.slice (some a) n cap) k) →
 Calls Tryd.prog 36 #[.pointer (some ⟨b, 0, none⟩), .agg (scells wcell s).toArray, .int .i64 pc] w (VPost b (.slice (some a) n cap) w (vwalk S f s pc k))

theorem size_state (s : VS) : (Tryd.prog.info? 114).map (·.size) = some (scells wcell s).length := by rw [scells_length]; kernel_rfl
theorem size_state' (s : VS) : (Tryd.prog.info? 114).map (·.size) = some (scells wcell s).toArray.size := by rw [List.size_toArray, scells_length]; kernel_rfl
theorem one_state (s : VS) : (scells wcell s).toArray.all (·.oneCell') = true := by
 refine all_oneCell_toArray fun v hv => ?_
 unfold scells at hv
 obtain ⟨j, -, rfl⟩ := List.mem_map.1 hv
 unfold simg wcell
 split <;> rfl
theorem state_put {w : World} {b : Nat} {s : VS} (ht : w.there b 0 (scells wcell s).toArray.size) : P.Img (w.setCells b 0 (scells wcell s).toArray.toList) b 81 (simg wcell s) := by
 have ht' : w.there b 0 (scells wcell s).length := by simpa using ht
 intro j hj
 have h := World.rangeAt_setCells_same w b 0 (scells wcell s) ht' j (simg wcell s j) (scells_at hj)
 rw [Nat.zero_add] at h
 refine ⟨by simpa using h, ?_⟩
 rw [World.frozen?_setCells]
 have := (ht' j (by rw [scells_length]; exact hj)).2
 rwa [Nat.zero_add] at this
theorem ErrIs.nil0 {w : World} {v : Value} {n p : Int} (h : ErrIs w v n p) (hn : n = 0) : v = .nilIface := by
 rcases h with ⟨h, -, -⟩ | ⟨h, -⟩ | ⟨h, -⟩
 ·exact h
 ·exact absurd hn h
 ·exact absurd hn h
theorem ErrIs.noIface {w : World} {v : Value} {n p : Int} (h : ErrIs w v n p) (hn : n ≠ 0) : ∃ t x, v = .iface t x := by
 rcases h with ⟨-, h, -⟩ | ⟨-, h, -⟩ | ⟨-, b, h, -⟩
 ·exact absurd h hn
 ·exact ⟨_, _, h⟩
 ·exact ⟨_, _, h⟩

set_option maxRecDepth 100000 in
set_option maxHeartbeats 100000000 in
theorem VAsks_try (S : Nat → Step) (a : Addr) (n cap b f : Nat) (hcap : n ≤ cap) (hn2 : n ≤ 200) (hab : a.block ≠ b) (IH : WalkC S a n cap b f) (HPS : ∀ j, j < n → StepOk n j (S j)) (s : VS) (pc : Nat) (k : Wk) (w : World) (hs : VSOk s) (hpc : pc < n) (hf : n ≤ pc + 1 + f) (hk0 : 0 ≤ k.looks) (hk1 : k.looks ≤ 4000) (hke : ∀ e ∈ k.ends, e.Ok)
  (hc : Cells w a S n) (hI : P.Img w b 5 (wimg (.slice (some a) n cap) k)) (ht : StepOk n pc (S pc)) (hw : (S pc).wrong = 0) (hca : 15 ≤ (S pc).code ∧ (S pc).code ≤ 24) :
  Calls Tryd.prog 61 #[.pointer (some ⟨b, 0, none⟩), .agg (scells wcell s).toArray, .int .i64 pc] w (VPost b (.slice (some a) n cap) w (waysOf (vwalk S f) pc k (s.asks (S pc) pc))) := by
 have HW0 := Lib.hid (Below.refl w.heap.size w)
 have hlt := hI.lt (by omega)
 have c0 : w.cell? ⟨b, 0, none⟩ = some (.slice (some a) n cap) := hI.cell 0 (by omega)
 obtain ⟨e0, e1, e2, e3, e4, e5⟩ := hc pc hpc
 have l0 := block_lt_of_cell e0
 have hin : In64 (S pc).num := ht.2.2
 generalize hT : S pc = t at *
 obtain ⟨c, d, sr, r, o, nn⟩ := t
 obtain ⟨g1, g2, g3, g4⟩ := wrong_ok hw
 simp only at g1 g2 g3 g4 hca e0 e1 e2 e3 e4 e5 hin
 obtain ⟨d, rfl⟩ := Int.eq_ofNat_of_zero_le g2.1
 obtain ⟨sr, rfl⟩ := Int.eq_ofNat_of_zero_le g2.2.2.1
 have dN : d < 11 := by omega
 have sN : sr < 11 := by omega
 have d1 : (d : Int) < 11 := by omega
 have s1 : (sr : Int) < 11 := by omega
 have pc1 : (pc : Int) < n := by omega
 have pc2 : (pc : Int) < 200 := by omega
 have pc0 : (0 : Int) ≤ pc := by omega
 have HI := Lib.hid hI
 have HIH := Lib.hid IH
 have HP := Lib.hid HPS
 have HKE := Lib.hid hke
 have HS := Lib.hid hs
 have HC := Lib.hid hc
 have HTT := Lib.hid ht
 obtain ⟨R, hR⟩ : ∃ R, s.asks ⟨c, d, sr, r, o, nn⟩ pc = R := ⟨_, rfl⟩
 rw [hR]
 have HR := Lib.hid hR
 clear hI IH hs hc ht hw hT hR HPS hke
 go_enter Tryd.func61, Tryd.ntmps61
 go_upto_region 2 with fail
 go_cut [8, 9] (fun p8 p9 wx => ∃ A B : Nat, p8 = .pointer (some ⟨A, 0, none⟩) ∧ p9 = .pointer (some ⟨B, 0, none⟩) ∧ w.heap.size + 1 < A ∧ w.heap.size + 1 < B ∧ P.Img wx A 3 (wcell (s.regs d)) ∧ P.Img wx B 3 (wcell (s.second ⟨c, d, sr, r, o, nn⟩)) ∧ P.Img wx (w.heap.size + 1) 6 (timg ⟨c, d, sr, r, o, nn⟩) ∧ P.Img wx w.heap.size 81 (simg wcell s) ∧ Below w.heap.size w wx)
 case first =>
  as_aux_lemma =>
   generalize hW : World.alloc (World.alloc w _) _ = wd
   have IS : P.Img wd w.heap.size 81 (simg wcell s) := hW ▸ Img.snew.alloc _
   have IT : P.Img wd (w.heap.size + 1) 6 (timg ⟨c, d, sr, r, o, nn⟩) := by
    rw [← hW]
    refine Img.of_cells (by simpa using heap_alloc_new (World.alloc w _) _) (by rfl) fun j hj => ?_
    rcases j with _ | _ | _ | _ | _ | _ | j
    ·rfl
    ·rfl
    ·rfl
    ·rfl
    ·rfl
    ·rfl
    ·omega
   have HB1 := Lib.hid (show Below w.heap.size w wd from hW ▸ (by repeat' (first | with_reducible (first | exact HW0.out | apply bR | apply bD | apply bN | apply bA | apply bS) | (simp; done) | (simp; omega) | omega)))
   clear hW
   obtain ⟨f0, f1, f2, f3, f4, f5⟩ := tcells IT
   obtain ⟨x0, x1, x2⟩ := rcells IS dN
   simp only at f0 f1 f2 f3 f4 f5
   have zs := IS.lt (by omega)
   have zt := IT.lt (by omega)
   have k0 := cell_regrown f0; have k1 := cell_regrown f1; have k2 := cell_regrown f2; have k3 := cell_regrown f3; have k4 := cell_regrown f4; have k5 := cell_regrown f5
   have k6 := cell_regrown x0; have k7 := cell_regrown x1; have k8 := cell_regrown x2
   have C2 := Lib.hid (show ∀ dr os, Calls Tryd.prog 64 #[.pointer (some ⟨w.heap.size, 0, none⟩), .agg #[.int .i64 c, .int .i64 d, .int .i64 sr, .bool r, .int .i64 o, .int .i64 nn]] (Go.Sort.grow (redrawn wd dr) os) fun e w' => e = .returned (.agg #[.int .i64 (s.second ⟨c, d, sr, r, o, nn⟩).kind, .int .i64 (s.second ⟨c, d, sr, r, o, nn⟩).b.lo, .int .i64 (s.second ⟨c, d, sr, r, o, nn⟩).b.hi]) ∧ BelowAt (Go.Sort.grow (redrawn wd dr) os) w' from fun dr os => VSecond_any w.heap.size s _ (IS.later (below_regrown wd dr os) zs) c d sr r o nn sN)
   have HIS := Lib.hid IS
   have HIT := Lib.hid IT
   generalize s.second ⟨c, d, sr, r, o, nn⟩ = y at *
   generalize s.regs d = x at *
   clear IS IT f0 f1 f2 f3 f4 f5 x0 x1 x2
   refine wp_calm_tail2 9 7 8 8 9 110 110 (.cells #[.int .i64 0, .int .i64 0, .int .i64 0] 110 (0, 0)) (.cells #[.int .i64 0, .int .i64 0, .int .i64 0] 110 (0, 0)) (by kernel_rfl) (by kernel_rfl) (by kernel_rfl) (by kernel_rfl) (by kernel_rfl) (by kernel_rfl) (by kernel_rfl) (by kernel_rfl) (by decide) (fun _ => rfl) (fun w => by kernel_rfl) (fun w => by kernel_rfl) ?_
   (repeat (first | refine wpCalm_alloc (by rfl) ?_ | (refine wpCalm_step (by rfl) (fun K hK => ?_); go_simp; first | (refine hK _ ?_; clear hK K) | (apply Exists.intro; refine ⟨fun _ => ?_, hK _ ?_⟩; (exact C2.out _ _); clear hK K))))
   refine wpCalm_nil ?_
   intro A B wq hbq hA hzA hB hzB hAB
   have IA := Img.zero3 hzA
   have IB := Img.zero3 hzB
   have a0 := IA.cell 0 (by omega); have a1 := IA.cell 1 (by omega); have a2 := IA.cell 2 (by omega)
   have b0 := IB.cell 0 (by omega); have b1 := IB.cell 1 (by omega); have b2 := IB.cell 2 (by omega)
   have r0 := IA.free 0 (by omega); have r1 := IA.free 1 (by omega); have r2 := IA.free 2 (by omega)
   have t0 := IB.free 0 (by omega); have t1 := IB.free 1 (by omega); have t2 := IB.free 2 (by omega)
   have HIA := Lib.hid IA
   have HIB := Lib.hid IB
   have HBQ := Lib.hid hbq
   have nAB : ¬ A = B := hAB
   have nBA : ¬ B = A := Ne.symm hAB
   clear IA IB hbq hzA hzB hAB k0 k1 k2 k3 k4 k5 k6 k7 k8
   go_wp2_with fail
   go_meet
   go_light
   refine ⟨A, B, rfl, rfl, by omega, by omega, ?_, ?_, ?_, ?_, ?_⟩
   ·exact (((w3 HIA.out).other nBA _).other nBA _).other nBA _
   ·exact w3 (((HIB.out.other nAB _).other nAB _).other nAB _)
   ·have := HIT.out.later HBQ.out zt
    (repeat' (first | with_reducible exact this | with_reducible refine Img.other ?_ ?_ _ | (simp; omega)))
   ·have := HIS.out.later HBQ.out zs
    (repeat' (first | with_reducible exact this | with_reducible refine Img.other ?_ ?_ _ | (simp; omega)))
   ·have := HB1.out.trans (HBQ.out.mono (by omega))
    (repeat' (first | with_reducible exact this | with_reducible refine Below.setCell ?_ ?_ _ | (simp; omega)))
 case rest =>
  obtain ⟨A, B, rfl, rfl, hA, hB, IA, IB, IT, IS, hb2⟩ := hcut
  obtain ⟨w2, hw2⟩ : ∃ x, x = wc := ⟨_, rfl⟩; subst hw2
  have I2 := HI.out.later hb2 hlt
  have zs := IS.lt (by omega)
  have zt := IT.lt (by omega)
  have zA := IA.lt (by omega)
  have zB := IB.lt (by omega)
  have hC2 := HC.out.later hb2
  obtain ⟨f0, f1, f2, f3, f4, f5⟩ := tcells IT
  obtain ⟨a0, a1, a2⟩ := wcells IA
  obtain ⟨b0, b1, b2⟩ := wcells IB
  simp only at f0 f1 f2 f3 f4 f5
  have hsec : WOk (s.second ⟨c, d, sr, r, o, nn⟩) := HS.out.second hin
  have hreg : WOk (s.regs d) := HS.out.1 d
  have hbl : Below w.heap.size w w2 := hb2
  have HB2 := Lib.hid hb2
  have HI2 := Lib.hid I2
  have HIS := Lib.hid IS
  have HIT := Lib.hid IT
  have HIA := Lib.hid IA
  have HIB := Lib.hid IB
  have HC2 := Lib.hid hC2
  have zb : b < w2.heap.size := I2.lt (by omega)
  have z2 : w.heap.size ≤ w2.heap.size := hb2.size
  clear hb2 I2 IS IT IA IB hC2 hbl HI HC
  have hR := HR.out
  unfold VS.asks at hR
  simp only [Int.toNat_natCast] at hR
  generalize hx : s.regs d = x at *
  generalize hy : s.second ⟨c, d, sr, r, o, nn⟩ = y at *
  have HX := Lib.hid hx
  have HY := Lib.hid hy
  clear hx hy
  by_cases h0 : x.kind = 0 ∨ y.kind = 0
  ·rw [if_pos h0] at hR
   subst hR
   as_aux_lemma =>
    have hd : ((x.kind == 0) = true) ∨ ((x.kind == 0) = false ∧ (y.kind == 0) = true) := by
     by_cases e : x.kind = 0
     ·exact .inl (vbeq_yes e)
     ·exact .inr ⟨vbeq_no e, vbeq_yes (by omega)⟩
    clear h0
    rcases hd with t1 | ⟨t1, t2⟩
    all_goals
     go_wp2_with fail
     refine (At_any _ _ _).mono ?_
     rintro e w3 ⟨rfl, q0, q1, q2, hb3⟩
     have HB3 := Lib.hid hb3
     clear hb3
     go_wp2_with fail
     go_ret
     exact ⟨_, rfl, .inr (.inr ⟨show (8 : Int) ≠ 0 by decide, _, rfl, q0, q1⟩), HI2.out.later HB3.out zb, But.of (HB2.out.trans (HB3.out.mono z2))⟩
  rw [if_neg h0] at hR
  by_cases h1 : x.kind = 1 ∧ y.kind = 1
  ·rw [if_pos h1] at hR
   as_aux_lemma =>
    have hxo := hreg.2
    have hyo := hsec.2
    obtain ⟨xk, ⟨xl, xh⟩⟩ := x
    obtain ⟨yk, ⟨yl, yh⟩⟩ := y
    obtain ⟨e1, e2⟩ := h1
    simp only at e1 e2 hxo hyo
    subst e1
    subst e2
    simp only at a0 a1 a2 b0 b1 b2
    obtain ⟨ol, oh⟩ := HTT.out.2.1 (.inr (show 15 ≤ c ∧ c ≤ 24 from by omega))
    simp only at ol oh
    obtain ⟨o, rfl⟩ := Int.eq_ofNat_of_zero_le ol
    have s1 : IntKind.i64.wrap ((pc : Int) + 1) = (pc : Int) + 1 := IntWalk.i64_in _ (by omega)
    have s2 : IntKind.i64.wrap ((pc : Int) + 1 + (o : Int)) = (pc : Int) + 1 + (o : Int) := IntWalk.i64_in _ (by omega)
    have HN1 : Hid (pc + 1 < n) := by show pc + 1 < n; omega
    have HN2 : Hid (pc + 1 + o < n) := by show pc + 1 + o < n; omega
    have HOX := Lib.hid hxo
    have HOY := Lib.hid hyo
    have HAS : Hid (P.asks c = true) := by show P.asks c = true; simp [P.asks]; omega
    obtain ⟨X, hX⟩ : ∃ X, s.way ⟨c, d, sr, r, o, nn⟩ (opp c) ((pc : Int) + 1) = X := ⟨_, rfl⟩
    obtain ⟨Y, hY⟩ : ∃ Y, s.way ⟨c, d, sr, r, o, nn⟩ c ((pc : Int) + 1 + o) = Y := ⟨_, rfl⟩
    have hR2 : VRes.go X Y = R := by rw [← hX, ← hY]; exact hR
    subst hR2
    obtain ⟨K, hK⟩ : ∃ K : Nat → VR, K = fun j => if j = 0 then ((0, -1), k) else if j = 1 then wayOf (vwalk S f) X k else wayOf (vwalk S f) Y (wayOf (vwalk S f) X k).2 := ⟨_, rfl⟩
    have hK0 : K 0 = ((0, -1), k) := by rw [hK]; rfl
    have hK1 : K 1 = wayOf (vwalk S f) X (K 0).2 := by rw [hK]; rfl
    have hK2 : K 2 = wayOf (vwalk S f) Y (K 1).2 := by rw [hK]; rfl
    have hKR : ∀ j, j < 2 → (K j).1.1 = 0 → (K (j + 1)).1.1 ≠ 0 → waysOf (vwalk S f) pc k (.go X Y) = K (j + 1) := by
     intro j hj h0 h1
     show thenOf (wayOf (vwalk S f) X k) (wayOf (vwalk S f) Y) = K (j + 1)
     have e1 : K 1 = wayOf (vwalk S f) X k := by rw [hK1, hK0]
     rw [← e1]
     unfold thenOf
     rcases j with _ | _ | j
     ·rw [if_pos h1]
     ·rw [if_neg (by simpa using h0), hK2]
     ·omega
    have hKE : (K 1).1.1 = 0 → waysOf (vwalk S f) pc k (.go X Y) = K 2 := by
     intro h0
     show thenOf (wayOf (vwalk S f) X k) (wayOf (vwalk S f) Y) = K 2
     have e1 : K 1 = wayOf (vwalk S f) X k := by rw [hK1, hK0]
     rw [← e1]
     unfold thenOf
     rw [if_neg (by simpa using h0), hK2]
    have HK0 := Lib.hid hK0; have HK1 := Lib.hid hK1; have HK2 := Lib.hid hK2; have HKR := Lib.hid hKR; have HKE2 := Lib.hid hKE
    have HX2 := Lib.hid hX
    have HY2 := Lib.hid hY
    clear hR h0 hX hY hK hK0 hK1 hK2 hKR hKE hxo hyo ol oh hsec hreg hca
    go_wp2_with fail
    go_loopw [58] (fun i wr => ∃ (j : Nat) (k' : Wk), j ≤ 2 ∧ i = .int .i64 j ∧ (j = 2 → (K 1).1.1 = 0) ∧ (K j).1.1 = 0 ∧ (K j).1.2 = -1 ∧ k' = (K j).2 ∧ 0 ≤ k'.looks ∧ k'.looks ≤ 4000 ∧ (∀ e ∈ k'.ends, e.Ok) ∧ P.Img wr b 5 (wimg (.slice (some a) n cap) k') ∧ But b w2 wr) (fun i _ => 2 - (intOf i).toNat)
    case atStart => exact ⟨0, k, by omega, rfl, fun h => by omega, by rw [HK0.out], by rw [HK0.out], by rw [HK0.out], hk0, hk1, HKE.out, HI2.out, But.refl _ _⟩
    case round =>
     obtain ⟨j, k', hj, rfl, hj20, hj0, hjp, hk', hk0', hk1', hke', hI', hB'⟩ := hrel
     have HJ20 := Lib.hid hj20; have HJ0 := Lib.hid hj0; have HJP := Lib.hid hjp; have HKK := Lib.hid hk'; have HKE' := Lib.hid hke'; have HI' := Lib.hid hI'; have HB' := Lib.hid hB'
     have nt : w.heap.size + 1 ≠ b := by omega
     have nA : A ≠ b := fun e => by omega
     have nB : B ≠ b := fun e => by omega
     have nS : w.heap.size ≠ b := by omega
     obtain ⟨f0, f1, f2, f3, f4, f5⟩ := tcells (hB'.img HIT.out (by omega) nt)
     have ia := hB'.img HIA.out (by omega) nA
     have ib := hB'.img HIB.out (by omega) nB
     have is := hB'.img HIS.out (by omega) nS
     obtain ⟨a0', a1', a2'⟩ := wcells ia
     obtain ⟨b0', b1', b2'⟩ := wcells ib
     simp only at f0 f1 f2 f3 f4 f5 a0' a1' a2' b0' b1' b2'
     have HT1 := Lib.hid (hB'.img HIT.out (by omega) nt)
     have HIA1 := Lib.hid ia
     have HIS1 := Lib.hid is
     have HC1 := Lib.hid (HC2.out.but hB' hab)
     have zr : w2.heap.size ≤ wr.heap.size := hB'.size
     have zrt : w.heap.size + 1 < wr.heap.size := by omega
     have zrA : A < wr.heap.size := by omega
     have zrB : B < wr.heap.size := by omega
     have zrb : b < wr.heap.size := by omega
     have zrs : w.heap.size < wr.heap.size := by omega
     clear hj20 hj0 hjp hk' hke' hI' hB' ia ib is
     by_cases hj2 : j < 2
     ·have hj3 : (j : Int) < 2 := by omega
      have hj01 : j = 0 ∨ j = 1 := by omega
      rcases hj01 with rfl | rfl
      ·as_aux_lemma =>
        have i0 : ∀ w, (Instr.index 170 (.agg #[.bool false, .bool true]) (.int .i64 0)).run Tryd.prog w = .ok (.bool false) w := fun _ => by kernel_rfl
        go_upto_region 9 with fail
        go_cut [12, 13] (fun p q wx => ∃ m : Nat, wx = wr.drewN m ∧ p = .int .i64 c ∧ q = .int .i64 ((pc : Int) + 1 + (o : Int)))
        case first =>
         as_aux_lemma =>
          go_quiet (fail)
          go_wp2_with fail
          go_meet
          go_light
          exact ⟨nq, rfl, rfl, rfl⟩
        case rest =>
         obtain ⟨md, hmd, rfl, rfl⟩ := hcut
         obtain ⟨w3, hw3⟩ : ∃ x, x = wc := ⟨_, rfl⟩; subst hw3
         have hb3 : Below wr.heap.size wr w3 := hmd ▸ Below.drewN' (Below.refl _ _) _
         clear hmd
         have HIS3 := Lib.hid (HIS1.out.later hb3 zrs)
         have HIA3 := Lib.hid (HIA1.out.later hb3 zrA)
         have HIT3 := Lib.hid (HT1.out.later hb3 zrt)
         have HC3 := Lib.hid (HC1.out.later hb3)
         have HI3 := Lib.hid (HI'.out.later hb3 zrb)
         have HB3 := Lib.hid (HB'.out.trans (But.of hb3))
         have z3 : wr.heap.size ≤ w3.heap.size := hb3.size
         obtain ⟨f0, f1, f2, f3, f4, f5⟩ := tcells HIT3.out
         have a1' := (hb3.cell (p := ⟨A, 1, none⟩) zrA).trans a1'
         have a2' := (hb3.cell (p := ⟨A, 2, none⟩) zrA).trans a2'
         have b1' := (hb3.cell (p := ⟨B, 1, none⟩) zrB).trans b1'
         have b2' := (hb3.cell (p := ⟨B, 2, none⟩) zrB).trans b2'
         simp only at f0 f1 f2 f3 f4 f5
         have CN := Lib.hid (fun w => Narrow_any (opp c) xl xh yl yh HOX.out.1 HOX.out.2.1 HOY.out.1 HOY.out.2.1 w)
         obtain ⟨Nr, hNr⟩ : ∃ Nr, bnarrow (opp c) ⟨xl, xh⟩ ⟨yl, yh⟩ = Nr := ⟨_, rfl⟩
         rw [hNr] at CN
         have HNr := Lib.hid hNr
         clear hNr hb3 HT1 HIA1 HIS1 HC1 HI' HB'
         obtain ⟨⟨pl, ph⟩, ⟨ql, qh⟩, ok⟩ := Nr
         simp only at CN
         have y1 : w.heap.size + 1 < w3.heap.size := by omega
         have y2 : A < w3.heap.size := by omega
         have y3 : w.heap.size < w3.heap.size := by omega
         have y4 : b < w3.heap.size := by omega
         go_wp2_with (go_at_call 81; with_reducible refine (Opposite_any c HAS.out _).mono ?_; rintro e w' ⟨rfl, rfl⟩)
         refine (CN.out _).mono ?_
         rintro e w4 ⟨rfl, hb4⟩
         have HIS4 := Lib.hid (HIS3.out.later hb4 y3)
         have HC4 := Lib.hid (HC3.out.later hb4)
         have HI4 := Lib.hid (HI3.out.later hb4 y4)
         have HB4 := Lib.hid (HB3.out.trans (But.of hb4))
         have z4 : w3.heap.size ≤ w4.heap.size := hb4.size
         have HIT4 := Lib.hid (HIT3.out.later hb4 y1)
         have HIA4 := Lib.hid (HIA3.out.later hb4 y2)
         obtain ⟨f0, f1, f2, f3, f4, f5⟩ := tcells HIT4.out
         obtain ⟨a0', a1', a2'⟩ := wcells HIA4.out
         simp only at f0 f1 f2 f3 f4 f5 a0' a1' a2'
         have y1 : w.heap.size + 1 < w4.heap.size := by omega
         have y2 : A < w4.heap.size := by omega
         have y3 : w.heap.size < w4.heap.size := by omega
         have y4 : b < w4.heap.size := by omega
         clear hb4 b1' b2' CN HIT3 HIA3 HIS3 HC3 HI3 HB3
         cases ok with
         | false =>
          as_aux_lemma =>
           have hXn : X = none := by
            rw [← HX2.out]
            unfold VS.way
            rw [if_neg]
            simp only [Int.toNat_natCast, HX.out, HY.out, HNr.out]
            decide
           have hKn : K 1 = ((0, -1), k') := by rw [HK1.out, hXn, HKK.out]; rfl
           have HKN := Lib.hid hKn
           clear hXn hKn
           go_wp2_with fail
           go_roundw
           case rel =>
            go_light
            refine ⟨1, k', by omega, by go_num, fun h => by omega, by rw [HKN.out], by rw [HKN.out], by rw [HKN.out], hk0', hk1', HKE'.out, ?_, ?_⟩
            ·exact (HI4.out.alloc _).alloc _
            ·exact (HB4.out.alloc _).alloc _
           case measure => simp [intOf]
         | true =>
          go_upto_region 14 with fail
          generalize hW : World.alloc (World.alloc w4 _) _ = w5
          have hb5 : Below w4.heap.size w4 w5 := hW ▸ ((Below.refl _ _).alloc (Nat.le_refl _) _).alloc (by simp) _
          have p0 : w5.cell? ⟨w4.heap.size, 0, none⟩ = some (.int .i64 pl) := by rw [← hW]; simp [go_sem]
          have p1 : w5.cell? ⟨w4.heap.size, 1, none⟩ = some (.int .i64 ph) := by rw [← hW]; simp [go_sem]
          have q0 : w5.cell? ⟨w4.heap.size + 1, 0, none⟩ = some (.int .i64 ql) := by rw [← hW]; simp [go_sem]
          have q1 : w5.cell? ⟨w4.heap.size + 1, 1, none⟩ = some (.int .i64 qh) := by rw [← hW]; simp [go_sem]
          have yq : w4.heap.size + 1 < w5.heap.size := by rw [← hW]; simp
          have yp : w4.heap.size < w5.heap.size := by omega
          clear hW
          have HIS5 := Lib.hid (HIS4.out.later hb5 y3)
          have HC5 := Lib.hid (HC4.out.later hb5)
          have HI5 := Lib.hid (HI4.out.later hb5 y4)
          have HB5 := Lib.hid (HB4.out.trans (But.of hb5))
          have HIT5 := Lib.hid (HIT4.out.later hb5 y1)
          have HIA5 := Lib.hid (HIA4.out.later hb5 y2)
          have y1 : w.heap.size + 1 < w5.heap.size := by omega
          have y2 : A < w5.heap.size := by omega
          have y3 : w.heap.size < w5.heap.size := by omega
          have y4 : b < w5.heap.size := by omega
          clear hb5 HIS4 HC4 HI4 HB4 HIT4 HIA4 f0 f1 f2 f3 f4 f5 a0' a1' a2'
          go_cut [17] (fun p wx => p = .pointer (some ⟨w5.heap.size, 0, none⟩) ∧ P.Img wx w5.heap.size 81 (simg wcell s) ∧ Below w5.heap.size w5 wx)
          case first =>
           as_aux_lemma =>
            go_wp2_with (first | (with_reducible refine vl_load (by simp [go_sem]; done) 114 (.tmp 4) rfl w.heap.size 0 (by simp [go_sem]; done) (scells wcell s) _ (Img.scells HIS5.out) Tryd.underlying114 rfl (size_state _) ?_) | (with_reducible refine wpList_store_mid rfl 114 (.tmp 17) (.tmp 87) rfl w5.heap.size 0 (scells wcell s).toArray (by simp [go_sem]; done) (by simp [go_sem]; done) (vthere_new (by rw [List.size_toArray, scells_length]; kernel_rfl)) (size_state' _) (one_state _) ?_))
            go_meet
            go_light
            refine ⟨rfl, state_put (vthere_new (by rw [List.size_toArray, scells_length]; kernel_rfl)), rsetCells (Nat.le_refl _) _ _ _ _ ((Below.refl _ _).alloc (Nat.le_refl _) _)⟩
          case rest =>
           obtain ⟨rfl, IU, hb6⟩ := hcut
           obtain ⟨w6, hw6⟩ : ∃ x, x = wc := ⟨_, rfl⟩; subst hw6
           have HIU := Lib.hid IU
           have HC6 := Lib.hid (HC5.out.later hb6)
           have HI6 := Lib.hid (HI5.out.later hb6 y4)
           have HB6 := Lib.hid (HB5.out.trans (But.of hb6))
           obtain ⟨f0, f1, f2, f3, f4, f5⟩ := tcells (HIT5.out.later hb6 y1)
           obtain ⟨a0', a1', a2'⟩ := wcells (HIA5.out.later hb6 y2)
           simp only at f0 f1 f2 f3 f4 f5 a0' a1' a2'
           replace p0 := (hb6.cell (p := ⟨w4.heap.size, 0, none⟩) yp).trans p0
           replace p1 := (hb6.cell (p := ⟨w4.heap.size, 1, none⟩) yp).trans p1
           replace q0 := (hb6.cell (p := ⟨w4.heap.size + 1, 0, none⟩) yq).trans q0
           replace q1 := (hb6.cell (p := ⟨w4.heap.size + 1, 1, none⟩) yq).trans q1
           have zu := IU.lt (by omega)
           have nUb : ¬ w5.heap.size = b := by omega
           have nbU : ¬ b = w5.heap.size := by omega
           have nU4 : ¬ w5.heap.size = w4.heap.size := by omega
           have nU5 : ¬ w5.heap.size = w4.heap.size + 1 := by omega
           have nU6 : ¬ w5.heap.size = w.heap.size + 1 := by omega
           have nU7 : ¬ w5.heap.size = A := by omega
           have nU8 : ¬ w4.heap.size = w5.heap.size := by omega
           have nU9 : ¬ w4.heap.size + 1 = w5.heap.size := by omega
           have nU10 : ¬ w.heap.size + 1 = w5.heap.size := by omega
           have nU11 : ¬ A = w5.heap.size := by omega
           have HAU : Hid (a.block ≠ w5.heap.size) := by show a.block ≠ w5.heap.size; have hbl : (a.add (pc * 6)).block = a.block := (by unfold Addr.add; split <;> rfl); omega
           clear hb6 IU HIS5 HC5 HI5 HB5 HIT5 HIA5
           have hXs : X = some (s.narrowed ⟨c, d, sr, r, o, nn⟩ ⟨pl, ph⟩ ⟨ql, qh⟩, ((pc + 1 : Nat) : Int)) := by
            rw [← HX2.out]
            unfold VS.way
            rw [if_pos]
            ·simp only [Int.toNat_natCast, HX.out, HY.out, HNr.out]; push_cast; rfl
            ·simp only [Int.toNat_natCast, HX.out, HY.out, HNr.out]
           have HXS := Lib.hid hXs
           clear hXs
           have HBo := Lib.hid (show P.B.Ok ⟨pl, ph⟩ ∧ P.B.Ok ⟨ql, qh⟩ from by have := bnarrow_ok (c := opp c) HOX.out HOY.out (by rw [HNr.out]); rw [HNr.out] at this; exact this)
           cases r with
           | false =>
            as_aux_lemma =>
             have d0 := HIU.out.cell (d * 3) (by omega); have d1' := HIU.out.cell (d * 3 + 1) (by omega); have d2 := HIU.out.cell (d * 3 + 2) (by omega); have g0 := HIU.out.free (d * 3) (by omega); have g1' := HIU.out.free (d * 3 + 1) (by omega); have g2' := HIU.out.free (d * 3 + 2) (by omega)
             go_upto_region 20 with fail
             generalize hW : World.setCell (World.setCell w6 _ _) _ _ = w7
             have IU7 : P.Img w7 w5.heap.size 81 (simg wcell (s.narrowed ⟨c, d, sr, false, o, nn⟩ ⟨pl, ph⟩ ⟨ql, qh⟩)) := by
              rw [← hW, show (s.narrowed ⟨c, d, sr, false, o, nn⟩ ⟨pl, ph⟩ ⟨ql, qh⟩) = { s with regs := upd s.regs d ⟨(s.regs d).kind, ⟨pl, ph⟩⟩ } from by unfold VS.narrowed; rw [if_neg (by simp)]; rfl]
              have K := (((HIU.out).set (j := d * 3 + 1) (by omega) (wcell ⟨((s).regs d).kind, ⟨pl, ph⟩⟩ 1)).set (j := d * 3 + 2) (by omega) (wcell ⟨((s).regs d).kind, ⟨pl, ph⟩⟩ 2)).congr (simg_setat (s := s) dN ⟨pl, ph⟩ (fun _ => rfl))
              exact K
             have BU : But w5.heap.size w6 w7 := hW ▸ ((((But.refl w5.heap.size w6).setCell (.inl rfl) _)).setCell (.inl rfl) _)
             have HC7 := Lib.hid (HC6.out.but BU HAU.out)
             have HI7 := Lib.hid (BU.img HI6.out (by omega) nbU)
             have HBB := Lib.hid (but_new HB6.out BU (by omega))
             have HIU7 := Lib.hid IU7
             have HVS : Hid (VSOk (s.narrowed ⟨c, d, sr, false, o, nn⟩ ⟨pl, ph⟩ ⟨ql, qh⟩)) := HS.out.narrowed _ HBo.out.1 HBo.out.2
             clear hW IU7 BU d0 d1' d2 g0 g1' g2' HC6 HI6 HB6 f0 f1 f2 f3 f4 f5 p0 p1 q0 q1 a0' a1' a2' HIU
             generalize hNS : (s.narrowed ⟨c, d, sr, false, o, nn⟩ ⟨pl, ph⟩ ⟨ql, qh⟩) = ns at *
             have HNS := Lib.hid hNS
             clear hNS
             go_wp2_with (first | (with_reducible refine vl_load (by simp [go_sem]; done) 114 (.tmp 17) rfl w5.heap.size 0 (by simp [go_sem]; done) (scells wcell ns) _ (Img.scells HIU7.out) Tryd.underlying114 rfl (size_state _) ?_))
             rw [show ((pc : Int) + 1) = ((pc + 1 : Nat) : Int) by push_cast; rfl]
             have HKP := Lib.hid (vwalk_keeps HP.out f ns ((pc + 1 : Nat) : Int) k' HVS.out (by omega) (by have := HN1.out; exact_mod_cast this) (by push_cast; omega))
             have HK2' : Hid (K 1 = vwalk S f ns ((pc + 1 : Nat) : Int) k') := by show K 1 = _; rw [HK1.out, HXS.out, ← HKK.out]; rfl
             refine (HIH.out ns (pc + 1) k' w7 HVS.out HN1.out (by omega) hk0' hk1' HKE'.out HC7.out HI7.out).mono ?_
             intro e w8 hp
             obtain ⟨v, rfl, hE, hI8, hB8⟩ := hp
             by_cases he : (vwalk S f ns ((pc + 1 : Nat) : Int) k').1.1 = 0
             ·obtain rfl := hE.nil0 he
              have HE0 := Lib.hid he
              have HI8 := Lib.hid hI8
              have HB8 := Lib.hid (HBB.out.trans hB8)
              have HL2 := Lib.hid (vwalk_looks f ns ((pc + 1 : Nat) : Int) k' hk1' HE0.out)
              clear he hE hI8 hB8
              go_wp2_with fail
              go_roundw
              case rel =>
               go_light
               exact ⟨1, (vwalk S f ns ((pc + 1 : Nat) : Int) k').2, by omega, by go_num, fun h => by omega, by rw [HK2'.out]; exact HE0.out, by rw [HK2'.out]; exact HKP.out.place HE0.out, by rw [HK2'.out], Int.le_trans hk0' HKP.out.looks, HL2.out, HKP.out.ok HKE'.out, HI8.out, HB8.out⟩
              case measure => simp [intOf]
             ·obtain ⟨ty, xv, rfl⟩ := hE.noIface he
              have HE0 := Lib.hid he
              have HE := Lib.hid hE
              have HI8 := Lib.hid hI8
              have HB8 := Lib.hid (HBB.out.trans hB8)
              clear he hE hI8 hB8
              go_wp2_with fail
              go_ret
              rw [HKR.out 0 (by omega) HJ0.out (by rw [HK2'.out]; exact HE0.out), HK2'.out]
              exact ⟨_, rfl, HE.out, HI8.out, (But.of HB2.out).trans HB8.out⟩
           | true =>
            by_cases hds : sr = d
            ·as_aux_lemma =>
              have hds2 := hds.symm; clear hds; subst hds2
              have d0 := HIU.out.cell (d * 3) (by omega); have d1' := HIU.out.cell (d * 3 + 1) (by omega); have d2 := HIU.out.cell (d * 3 + 2) (by omega); have g0 := HIU.out.free (d * 3) (by omega); have g1' := HIU.out.free (d * 3 + 1) (by omega); have g2' := HIU.out.free (d * 3 + 2) (by omega)
              clear d0
              obtain ⟨v0, d0⟩ : ∃ v, w6.cell? ⟨w5.heap.size, d * 3, none⟩ = some v := ⟨_, HIU.out.cell (d * 3) (by omega)⟩
              clear d1'
              obtain ⟨v1, d1'⟩ : ∃ v, w6.cell? ⟨w5.heap.size, d * 3 + 1, none⟩ = some v := ⟨_, HIU.out.cell (d * 3 + 1) (by omega)⟩
              clear d2
              obtain ⟨v2, d2⟩ : ∃ v, w6.cell? ⟨w5.heap.size, d * 3 + 2, none⟩ = some v := ⟨_, HIU.out.cell (d * 3 + 2) (by omega)⟩
              go_upto_region 17 with fail
              generalize hW : World.setCell (World.setCell w6 _ _) _ _ = wa
              have IUa : P.Img wa w5.heap.size 81 _ := hW ▸ (((HIU.out).set (j := d * 3 + 1) (by omega) (.int .i64 ql)).set (j := d * 3 + 2) (by omega) (.int .i64 qh))
              have BUwa : But w5.heap.size w6 wa := hW ▸ ((((But.refl w5.heap.size w6).setCell (.inl rfl) _)).setCell (.inl rfl) _)
              clear hW
              replace f1 := BUwa.cell f1 (by omega)
              replace f2 := BUwa.cell f2 (by omega)
              replace f3 := BUwa.cell f3 (by omega)
              replace p0 := BUwa.cell p0 (by omega)
              replace p1 := BUwa.cell p1 (by omega)
              replace q0 := BUwa.cell q0 (by omega)
              replace q1 := BUwa.cell q1 (by omega)
              replace a0' := BUwa.cell a0' (by omega)
              replace a1' := BUwa.cell a1' (by omega)
              replace a2' := BUwa.cell a2' (by omega)
              clear d0
              obtain ⟨vwa0, d0⟩ : ∃ v, wa.cell? ⟨w5.heap.size, d * 3, none⟩ = some v := ⟨_, IUa.cell (d * 3) (by omega)⟩
              replace g0 := IUa.free (d * 3) (by omega)
              clear d1'
              obtain ⟨vwa1, d1'⟩ : ∃ v, wa.cell? ⟨w5.heap.size, d * 3 + 1, none⟩ = some v := ⟨_, IUa.cell (d * 3 + 1) (by omega)⟩
              replace g1' := IUa.free (d * 3 + 1) (by omega)
              clear d2
              obtain ⟨vwa2, d2⟩ : ∃ v, wa.cell? ⟨w5.heap.size, d * 3 + 2, none⟩ = some v := ⟨_, IUa.cell (d * 3 + 2) (by omega)⟩
              replace g2' := IUa.free (d * 3 + 2) (by omega)
              have HIUa := Lib.hid IUa
              clear IUa
              go_upto_region 19 with fail
              generalize hW : World.setCell (World.setCell wa _ _) _ _ = wb
              have IUb : P.Img wb w5.heap.size 81 _ := hW ▸ ((HIUa.out.set (j := d * 3 + 1) (by omega) (.int .i64 pl)).set (j := d * 3 + 2) (by omega) (.int .i64 ph))
              have BUwb : But w5.heap.size wa wb := hW ▸ ((((But.refl w5.heap.size wa).setCell (.inl rfl) _)).setCell (.inl rfl) _)
              clear hW
              replace f1 := BUwb.cell f1 (by omega)
              replace f2 := BUwb.cell f2 (by omega)
              replace f3 := BUwb.cell f3 (by omega)
              replace p0 := BUwb.cell p0 (by omega)
              replace p1 := BUwb.cell p1 (by omega)
              replace q0 := BUwb.cell q0 (by omega)
              replace q1 := BUwb.cell q1 (by omega)
              replace a0' := BUwb.cell a0' (by omega)
              replace a1' := BUwb.cell a1' (by omega)
              replace a2' := BUwb.cell a2' (by omega)
              clear d0
              obtain ⟨vwb0, d0⟩ : ∃ v, wb.cell? ⟨w5.heap.size, d * 3, none⟩ = some v := ⟨_, IUb.cell (d * 3) (by omega)⟩
              replace g0 := IUb.free (d * 3) (by omega)
              clear d1'
              obtain ⟨vwb1, d1'⟩ : ∃ v, wb.cell? ⟨w5.heap.size, d * 3 + 1, none⟩ = some v := ⟨_, IUb.cell (d * 3 + 1) (by omega)⟩
              replace g1' := IUb.free (d * 3 + 1) (by omega)
              clear d2
              obtain ⟨vwb2, d2⟩ : ∃ v, wb.cell? ⟨w5.heap.size, d * 3 + 2, none⟩ = some v := ⟨_, IUb.cell (d * 3 + 2) (by omega)⟩
              replace g2' := IUb.free (d * 3 + 2) (by omega)
              have HIUb := Lib.hid IUb
              clear IUb
              go_upto_region 20 with fail
              generalize hW : World.setCell (World.setCell (World.setCell wb _ _) _ _) _ _ = w7
              have IU7 : P.Img w7 w5.heap.size 81 (simg wcell (s.narrowed ⟨c, d, d, true, o, nn⟩ ⟨pl, ph⟩ ⟨ql, qh⟩)) := by
               have e1 : (s.narrowed ⟨c, d, d, true, o, nn⟩ ⟨pl, ph⟩ ⟨ql, qh⟩) = s := by
                unfold VS.narrowed
                rw [if_pos rfl, if_pos rfl]
               rw [← hW, e1]
               refine (((HIUb.out.set (j := d * 3) (by omega) (.int .i64 1)).set (j := d * 3 + 1) (by omega) (.int .i64 xl)).set (j := d * 3 + 2) (by omega) (.int .i64 xh)).congr fun jj hjj => ?_
               have hx0 := HX.out
               by_cases q2 : jj = d * 3 + 2
               ·rw [q2, upd_same, simg_reg dN (by omega : 2 < 3) rfl, hx0]; rfl
               by_cases q1 : jj = d * 3 + 1
               ·rw [q1, upd_other (by omega), upd_same, simg_reg dN (by omega : 1 < 3) rfl, hx0]; rfl
               by_cases q0 : jj = d * 3
               ·rw [q0, upd_other (by omega), upd_other (by omega), upd_same, simg_reg dN (by omega : 0 < 3) (by omega), hx0]; rfl
               rw [upd_other q2, upd_other q1, upd_other q0, upd_other q2, upd_other q1, upd_other q2, upd_other q1]
              have BU : But w5.heap.size w6 w7 := (BUwa.trans BUwb).trans (hW ▸ ((((((But.refl w5.heap.size wb).setCell (.inl rfl) _)).setCell (.inl rfl) _)).setCell (.inl rfl) _))
              have HC7 := Lib.hid (HC6.out.but BU HAU.out)
              have HI7 := Lib.hid (BU.img HI6.out (by omega) nbU)
              have HBB := Lib.hid (but_new HB6.out BU (by omega))
              have HIU7 := Lib.hid IU7
              have HVS : Hid (VSOk (s.narrowed ⟨c, d, d, true, o, nn⟩ ⟨pl, ph⟩ ⟨ql, qh⟩)) := HS.out.narrowed _ HBo.out.1 HBo.out.2
              clear hW IU7 BU d0 d1' d2 g0 g1' g2' HC6 HI6 HB6 f0 f1 f2 f3 f4 f5 p0 p1 q0 q1 a0' a1' a2' HIU
              generalize hNS : (s.narrowed ⟨c, d, d, true, o, nn⟩ ⟨pl, ph⟩ ⟨ql, qh⟩) = ns at *
              have HNS := Lib.hid hNS
              clear hNS
              go_wp2_with (first | (with_reducible refine vl_load (by simp [go_sem]; done) 114 (.tmp 17) rfl w5.heap.size 0 (by simp [go_sem]; done) (scells wcell ns) _ (Img.scells HIU7.out) Tryd.underlying114 rfl (size_state _) ?_))
              rw [show ((pc : Int) + 1) = ((pc + 1 : Nat) : Int) by push_cast; rfl]
              have HKP := Lib.hid (vwalk_keeps HP.out f ns ((pc + 1 : Nat) : Int) k' HVS.out (by omega) (by have := HN1.out; exact_mod_cast this) (by push_cast; omega))
              have HK2' : Hid (K 1 = vwalk S f ns ((pc + 1 : Nat) : Int) k') := by show K 1 = _; rw [HK1.out, HXS.out, ← HKK.out]; rfl
              refine (HIH.out ns (pc + 1) k' w7 HVS.out HN1.out (by omega) hk0' hk1' HKE'.out HC7.out HI7.out).mono ?_
              intro e w8 hp
              obtain ⟨v, rfl, hE, hI8, hB8⟩ := hp
              by_cases he : (vwalk S f ns ((pc + 1 : Nat) : Int) k').1.1 = 0
              ·obtain rfl := hE.nil0 he
               have HE0 := Lib.hid he
               have HI8 := Lib.hid hI8
               have HB8 := Lib.hid (HBB.out.trans hB8)
               have HL2 := Lib.hid (vwalk_looks f ns ((pc + 1 : Nat) : Int) k' hk1' HE0.out)
               clear he hE hI8 hB8
               go_wp2_with fail
               go_roundw
               case rel =>
                go_light
                exact ⟨1, (vwalk S f ns ((pc + 1 : Nat) : Int) k').2, by omega, by go_num, fun h => by omega, by rw [HK2'.out]; exact HE0.out, by rw [HK2'.out]; exact HKP.out.place HE0.out, by rw [HK2'.out], Int.le_trans hk0' HKP.out.looks, HL2.out, HKP.out.ok HKE'.out, HI8.out, HB8.out⟩
               case measure => simp [intOf]
              ·obtain ⟨ty, xv, rfl⟩ := hE.noIface he
               have HE0 := Lib.hid he
               have HE := Lib.hid hE
               have HI8 := Lib.hid hI8
               have HB8 := Lib.hid (HBB.out.trans hB8)
               clear he hE hI8 hB8
               go_wp2_with fail
               go_ret
               rw [HKR.out 0 (by omega) HJ0.out (by rw [HK2'.out]; exact HE0.out), HK2'.out]
               exact ⟨_, rfl, HE.out, HI8.out, (But.of HB2.out).trans HB8.out⟩
            ·as_aux_lemma =>
              have d0 := HIU.out.cell (d * 3) (by omega); have d1' := HIU.out.cell (d * 3 + 1) (by omega); have d2 := HIU.out.cell (d * 3 + 2) (by omega); have g0 := HIU.out.free (d * 3) (by omega); have g1' := HIU.out.free (d * 3 + 1) (by omega); have g2' := HIU.out.free (d * 3 + 2) (by omega)
              have l1' := HIU.out.cell (sr * 3 + 1) (by omega); have l2 := HIU.out.cell (sr * 3 + 2) (by omega); have m1' := HIU.out.free (sr * 3 + 1) (by omega); have m2' := HIU.out.free (sr * 3 + 2) (by omega)
              have ds := vbeq_no (show (sr : Int) ≠ d by omega)
              have m11 : ¬ sr * 3 + 1 = d * 3 + 1 := by omega
              have m12 : ¬ sr * 3 + 1 = d * 3 + 2 := by omega
              have m21 : ¬ sr * 3 + 2 = d * 3 + 1 := by omega
              have m22 : ¬ sr * 3 + 2 = d * 3 + 2 := by omega
              have n11 : ¬ d * 3 + 1 = sr * 3 + 1 := by omega
              have n12 : ¬ d * 3 + 1 = sr * 3 + 2 := by omega
              have n21 : ¬ d * 3 + 2 = sr * 3 + 1 := by omega
              have n22 : ¬ d * 3 + 2 = sr * 3 + 2 := by omega
              go_upto_region 20 with fail
              generalize hW : World.setCell (World.setCell (World.setCell (World.setCell w6 _ _) _ _) _ _) _ _ = w7
              have IU7 : P.Img w7 w5.heap.size 81 (simg wcell (s.narrowed ⟨c, d, sr, true, o, nn⟩ ⟨pl, ph⟩ ⟨ql, qh⟩)) := by
               have e1 : (s.narrowed ⟨c, d, sr, true, o, nn⟩ ⟨pl, ph⟩ ⟨ql, qh⟩) = { s with regs := upd (upd s.regs sr ⟨(s.regs sr).kind, ⟨ql, qh⟩⟩) d ⟨(s.regs d).kind, ⟨pl, ph⟩⟩ } := by
                unfold VS.narrowed
                rw [if_pos rfl, if_neg (by simp only; omega)]
                rfl
               rw [← hW, e1]
               have K1 := (((HIU.out).set (j := sr * 3 + 1) (by omega) (wcell ⟨((s).regs sr).kind, ⟨ql, qh⟩⟩ 1)).set (j := sr * 3 + 2) (by omega) (wcell ⟨((s).regs sr).kind, ⟨ql, qh⟩⟩ 2)).congr (simg_setat (s := s) sN ⟨ql, qh⟩ (fun _ => rfl))
               have K2 := (((K1).set (j := d * 3 + 1) (by omega) (wcell ⟨((({ s with regs := upd s.regs sr ⟨(s.regs sr).kind, ⟨ql, qh⟩⟩ } : VS)).regs d).kind, ⟨pl, ph⟩⟩ 1)).set (j := d * 3 + 2) (by omega) (wcell ⟨((({ s with regs := upd s.regs sr ⟨(s.regs sr).kind, ⟨ql, qh⟩⟩ } : VS)).regs d).kind, ⟨pl, ph⟩⟩ 2)).congr (simg_setat (s := ({ s with regs := upd s.regs sr ⟨(s.regs sr).kind, ⟨ql, qh⟩⟩ } : VS)) dN ⟨pl, ph⟩ (fun _ => rfl))
               have e2 : upd s.regs sr ⟨(s.regs sr).kind, ⟨ql, qh⟩⟩ d = s.regs d := upd_other (by omega)
               simp only [e2] at K2
               exact K2
              have BU : But w5.heap.size w6 w7 := hW ▸ ((((((((But.refl w5.heap.size w6).setCell (.inl rfl) _)).setCell (.inl rfl) _)).setCell (.inl rfl) _)).setCell (.inl rfl) _)
              have HC7 := Lib.hid (HC6.out.but BU HAU.out)
              have HI7 := Lib.hid (BU.img HI6.out (by omega) nbU)
              have HBB := Lib.hid (but_new HB6.out BU (by omega))
              have HIU7 := Lib.hid IU7
              have HVS : Hid (VSOk (s.narrowed ⟨c, d, sr, true, o, nn⟩ ⟨pl, ph⟩ ⟨ql, qh⟩)) := HS.out.narrowed _ HBo.out.1 HBo.out.2
              clear hW IU7 BU d0 d1' d2 g0 g1' g2' HC6 HI6 HB6 f0 f1 f2 f3 f4 f5 p0 p1 q0 q1 a0' a1' a2' HIU l1' l2 m1' m2'
              generalize hNS : (s.narrowed ⟨c, d, sr, true, o, nn⟩ ⟨pl, ph⟩ ⟨ql, qh⟩) = ns at *
              have HNS := Lib.hid hNS
              clear hNS
              go_wp2_with (first | (with_reducible refine vl_load (by simp [go_sem]; done) 114 (.tmp 17) rfl w5.heap.size 0 (by simp [go_sem]; done) (scells wcell ns) _ (Img.scells HIU7.out) Tryd.underlying114 rfl (size_state _) ?_))
              rw [show ((pc : Int) + 1) = ((pc + 1 : Nat) : Int) by push_cast; rfl]
              have HKP := Lib.hid (vwalk_keeps HP.out f ns ((pc + 1 : Nat) : Int) k' HVS.out (by omega) (by have := HN1.out; exact_mod_cast this) (by push_cast; omega))
              have HK2' : Hid (K 1 = vwalk S f ns ((pc + 1 : Nat) : Int) k') := by show K 1 = _; rw [HK1.out, HXS.out, ← HKK.out]; rfl
              refine (HIH.out ns (pc + 1) k' w7 HVS.out HN1.out (by omega) hk0' hk1' HKE'.out HC7.out HI7.out).mono ?_
              intro e w8 hp
              obtain ⟨v, rfl, hE, hI8, hB8⟩ := hp
              by_cases he : (vwalk S f ns ((pc + 1 : Nat) : Int) k').1.1 = 0
              ·obtain rfl := hE.nil0 he
               have HE0 := Lib.hid he
               have HI8 := Lib.hid hI8
               have HB8 := Lib.hid (HBB.out.trans hB8)
               have HL2 := Lib.hid (vwalk_looks f ns ((pc + 1 : Nat) : Int) k' hk1' HE0.out)
               clear he hE hI8 hB8
               go_wp2_with fail
               go_roundw
               case rel =>
                go_light
                exact ⟨1, (vwalk S f ns ((pc + 1 : Nat) : Int) k').2, by omega, by go_num, fun h => by omega, by rw [HK2'.out]; exact HE0.out, by rw [HK2'.out]; exact HKP.out.place HE0.out, by rw [HK2'.out], Int.le_trans hk0' HKP.out.looks, HL2.out, HKP.out.ok HKE'.out, HI8.out, HB8.out⟩
               case measure => simp [intOf]
              ·obtain ⟨ty, xv, rfl⟩ := hE.noIface he
               have HE0 := Lib.hid he
               have HE := Lib.hid hE
               have HI8 := Lib.hid hI8
               have HB8 := Lib.hid (HBB.out.trans hB8)
               clear he hE hI8 hB8
               go_wp2_with fail
               go_ret
               rw [HKR.out 0 (by omega) HJ0.out (by rw [HK2'.out]; exact HE0.out), HK2'.out]
               exact ⟨_, rfl, HE.out, HI8.out, (But.of HB2.out).trans HB8.out⟩
      ·as_aux_lemma =>
        have i0 : ∀ w, (Instr.index 170 (.agg #[.bool false, .bool true]) (.int .i64 1)).run Tryd.prog w = .ok (.bool true) w := fun _ => by kernel_rfl
        go_upto_region 9 with fail
        go_cut [12, 13] (fun p q wx => ∃ m : Nat, wx = wr.drewN m ∧ p = .int .i64 c ∧ q = .int .i64 ((pc : Int) + 1 + (o : Int)))
        case first =>
         as_aux_lemma =>
          go_quiet (fail)
          go_wp2_with fail
          go_meet
          go_light
          exact ⟨nq, rfl, rfl, rfl⟩
        case rest =>
         obtain ⟨md, hmd, rfl, rfl⟩ := hcut
         obtain ⟨w3, hw3⟩ : ∃ x, x = wc := ⟨_, rfl⟩; subst hw3
         have hb3 : Below wr.heap.size wr w3 := hmd ▸ Below.drewN' (Below.refl _ _) _
         clear hmd
         have HIS3 := Lib.hid (HIS1.out.later hb3 zrs)
         have HIA3 := Lib.hid (HIA1.out.later hb3 zrA)
         have HIT3 := Lib.hid (HT1.out.later hb3 zrt)
         have HC3 := Lib.hid (HC1.out.later hb3)
         have HI3 := Lib.hid (HI'.out.later hb3 zrb)
         have HB3 := Lib.hid (HB'.out.trans (But.of hb3))
         have z3 : wr.heap.size ≤ w3.heap.size := hb3.size
         obtain ⟨f0, f1, f2, f3, f4, f5⟩ := tcells HIT3.out
         have a1' := (hb3.cell (p := ⟨A, 1, none⟩) zrA).trans a1'
         have a2' := (hb3.cell (p := ⟨A, 2, none⟩) zrA).trans a2'
         have b1' := (hb3.cell (p := ⟨B, 1, none⟩) zrB).trans b1'
         have b2' := (hb3.cell (p := ⟨B, 2, none⟩) zrB).trans b2'
         simp only at f0 f1 f2 f3 f4 f5
         have CN := Lib.hid (fun w => Narrow_any (c) xl xh yl yh HOX.out.1 HOX.out.2.1 HOY.out.1 HOY.out.2.1 w)
         obtain ⟨Nr, hNr⟩ : ∃ Nr, bnarrow (c) ⟨xl, xh⟩ ⟨yl, yh⟩ = Nr := ⟨_, rfl⟩
         rw [hNr] at CN
         have HNr := Lib.hid hNr
         clear hNr hb3 HT1 HIA1 HIS1 HC1 HI' HB'
         obtain ⟨⟨pl, ph⟩, ⟨ql, qh⟩, ok⟩ := Nr
         simp only at CN
         have y1 : w.heap.size + 1 < w3.heap.size := by omega
         have y2 : A < w3.heap.size := by omega
         have y3 : w.heap.size < w3.heap.size := by omega
         have y4 : b < w3.heap.size := by omega
         go_wp2_with fail
         refine (CN.out _).mono ?_
         rintro e w4 ⟨rfl, hb4⟩
         have HIS4 := Lib.hid (HIS3.out.later hb4 y3)
         have HC4 := Lib.hid (HC3.out.later hb4)
         have HI4 := Lib.hid (HI3.out.later hb4 y4)
         have HB4 := Lib.hid (HB3.out.trans (But.of hb4))
         have z4 : w3.heap.size ≤ w4.heap.size := hb4.size
         have HIT4 := Lib.hid (HIT3.out.later hb4 y1)
         have HIA4 := Lib.hid (HIA3.out.later hb4 y2)
         obtain ⟨f0, f1, f2, f3, f4, f5⟩ := tcells HIT4.out
         obtain ⟨a0', a1', a2'⟩ := wcells HIA4.out
         simp only at f0 f1 f2 f3 f4 f5 a0' a1' a2'
         have y1 : w.heap.size + 1 < w4.heap.size := by omega
         have y2 : A < w4.heap.size := by omega
         have y3 : w.heap.size < w4.heap.size := by omega
         have y4 : b < w4.heap.size := by omega
         clear hb4 b1' b2' CN HIT3 HIA3 HIS3 HC3 HI3 HB3
         cases ok with
         | false =>
          as_aux_lemma =>
           have hXn : Y = none := by
            rw [← HY2.out]
            unfold VS.way
            rw [if_neg]
            simp only [Int.toNat_natCast, HX.out, HY.out, HNr.out]
            decide
           have hKn : K 2 = ((0, -1), k') := by rw [HK2.out, hXn, HKK.out]; rfl
           have HKN := Lib.hid hKn
           clear hXn hKn
           go_wp2_with fail
           go_roundw
           case rel =>
            go_light
            refine ⟨2, k', by omega, by go_num, fun _ => HJ0.out, by rw [HKN.out], by rw [HKN.out], by rw [HKN.out], hk0', hk1', HKE'.out, ?_, ?_⟩
            ·exact (HI4.out.alloc _).alloc _
            ·exact (HB4.out.alloc _).alloc _
           case measure => simp [intOf]
         | true =>
          go_upto_region 14 with fail
          generalize hW : World.alloc (World.alloc w4 _) _ = w5
          have hb5 : Below w4.heap.size w4 w5 := hW ▸ ((Below.refl _ _).alloc (Nat.le_refl _) _).alloc (by simp) _
          have p0 : w5.cell? ⟨w4.heap.size, 0, none⟩ = some (.int .i64 pl) := by rw [← hW]; simp [go_sem]
          have p1 : w5.cell? ⟨w4.heap.size, 1, none⟩ = some (.int .i64 ph) := by rw [← hW]; simp [go_sem]
          have q0 : w5.cell? ⟨w4.heap.size + 1, 0, none⟩ = some (.int .i64 ql) := by rw [← hW]; simp [go_sem]
          have q1 : w5.cell? ⟨w4.heap.size + 1, 1, none⟩ = some (.int .i64 qh) := by rw [← hW]; simp [go_sem]
          have yq : w4.heap.size + 1 < w5.heap.size := by rw [← hW]; simp
          have yp : w4.heap.size < w5.heap.size := by omega
          clear hW
          have HIS5 := Lib.hid (HIS4.out.later hb5 y3)
          have HC5 := Lib.hid (HC4.out.later hb5)
          have HI5 := Lib.hid (HI4.out.later hb5 y4)
          have HB5 := Lib.hid (HB4.out.trans (But.of hb5))
          have HIT5 := Lib.hid (HIT4.out.later hb5 y1)
          have HIA5 := Lib.hid (HIA4.out.later hb5 y2)
          have y1 : w.heap.size + 1 < w5.heap.size := by omega
          have y2 : A < w5.heap.size := by omega
          have y3 : w.heap.size < w5.heap.size := by omega
          have y4 : b < w5.heap.size := by omega
          clear hb5 HIS4 HC4 HI4 HB4 HIT4 HIA4 f0 f1 f2 f3 f4 f5 a0' a1' a2'
          go_cut [17] (fun p wx => p = .pointer (some ⟨w5.heap.size, 0, none⟩) ∧ P.Img wx w5.heap.size 81 (simg wcell s) ∧ Below w5.heap.size w5 wx)
          case first =>
           as_aux_lemma =>
            go_wp2_with (first | (with_reducible refine vl_load (by simp [go_sem]; done) 114 (.tmp 4) rfl w.heap.size 0 (by simp [go_sem]; done) (scells wcell s) _ (Img.scells HIS5.out) Tryd.underlying114 rfl (size_state _) ?_) | (with_reducible refine wpList_store_mid rfl 114 (.tmp 17) (.tmp 87) rfl w5.heap.size 0 (scells wcell s).toArray (by simp [go_sem]; done) (by simp [go_sem]; done) (vthere_new (by rw [List.size_toArray, scells_length]; kernel_rfl)) (size_state' _) (one_state _) ?_))
            go_meet
            go_light
            refine ⟨rfl, state_put (vthere_new (by rw [List.size_toArray, scells_length]; kernel_rfl)), rsetCells (Nat.le_refl _) _ _ _ _ ((Below.refl _ _).alloc (Nat.le_refl _) _)⟩
          case rest =>
           obtain ⟨rfl, IU, hb6⟩ := hcut
           obtain ⟨w6, hw6⟩ : ∃ x, x = wc := ⟨_, rfl⟩; subst hw6
           have HIU := Lib.hid IU
           have HC6 := Lib.hid (HC5.out.later hb6)
           have HI6 := Lib.hid (HI5.out.later hb6 y4)
           have HB6 := Lib.hid (HB5.out.trans (But.of hb6))
           obtain ⟨f0, f1, f2, f3, f4, f5⟩ := tcells (HIT5.out.later hb6 y1)
           obtain ⟨a0', a1', a2'⟩ := wcells (HIA5.out.later hb6 y2)
           simp only at f0 f1 f2 f3 f4 f5 a0' a1' a2'
           replace p0 := (hb6.cell (p := ⟨w4.heap.size, 0, none⟩) yp).trans p0
           replace p1 := (hb6.cell (p := ⟨w4.heap.size, 1, none⟩) yp).trans p1
           replace q0 := (hb6.cell (p := ⟨w4.heap.size + 1, 0, none⟩) yq).trans q0
           replace q1 := (hb6.cell (p := ⟨w4.heap.size + 1, 1, none⟩) yq).trans q1
           have zu := IU.lt (by omega)
           have nUb : ¬ w5.heap.size = b := by omega
           have nbU : ¬ b = w5.heap.size := by omega
           have nU4 : ¬ w5.heap.size = w4.heap.size := by omega
           have nU5 : ¬ w5.heap.size = w4.heap.size + 1 := by omega
           have nU6 : ¬ w5.heap.size = w.heap.size + 1 := by omega
           have nU7 : ¬ w5.heap.size = A := by omega
           have nU8 : ¬ w4.heap.size = w5.heap.size := by omega
           have nU9 : ¬ w4.heap.size + 1 = w5.heap.size := by omega
           have nU10 : ¬ w.heap.size + 1 = w5.heap.size := by omega
           have nU11 : ¬ A = w5.heap.size := by omega
           have HAU : Hid (a.block ≠ w5.heap.size) := by show a.block ≠ w5.heap.size; have hbl : (a.add (pc * 6)).block = a.block := (by unfold Addr.add; split <;> rfl); omega
           clear hb6 IU HIS5 HC5 HI5 HB5 HIT5 HIA5
           have hXs : Y = some (s.narrowed ⟨c, d, sr, r, o, nn⟩ ⟨pl, ph⟩ ⟨ql, qh⟩, ((pc + 1 + o : Nat) : Int)) := by
            rw [← HY2.out]
            unfold VS.way
            rw [if_pos]
            ·simp only [Int.toNat_natCast, HX.out, HY.out, HNr.out]; push_cast; rfl
            ·simp only [Int.toNat_natCast, HX.out, HY.out, HNr.out]
           have HXS := Lib.hid hXs
           clear hXs
           have HBo := Lib.hid (show P.B.Ok ⟨pl, ph⟩ ∧ P.B.Ok ⟨ql, qh⟩ from by have := bnarrow_ok (c := c) HOX.out HOY.out (by rw [HNr.out]); rw [HNr.out] at this; exact this)
           cases r with
           | false =>
            as_aux_lemma =>
             have d0 := HIU.out.cell (d * 3) (by omega); have d1' := HIU.out.cell (d * 3 + 1) (by omega); have d2 := HIU.out.cell (d * 3 + 2) (by omega); have g0 := HIU.out.free (d * 3) (by omega); have g1' := HIU.out.free (d * 3 + 1) (by omega); have g2' := HIU.out.free (d * 3 + 2) (by omega)
             go_upto_region 20 with fail
             generalize hW : World.setCell (World.setCell w6 _ _) _ _ = w7
             have IU7 : P.Img w7 w5.heap.size 81 (simg wcell (s.narrowed ⟨c, d, sr, false, o, nn⟩ ⟨pl, ph⟩ ⟨ql, qh⟩)) := by
              rw [← hW, show (s.narrowed ⟨c, d, sr, false, o, nn⟩ ⟨pl, ph⟩ ⟨ql, qh⟩) = { s with regs := upd s.regs d ⟨(s.regs d).kind, ⟨pl, ph⟩⟩ } from by unfold VS.narrowed; rw [if_neg (by simp)]; rfl]
              have K := (((HIU.out).set (j := d * 3 + 1) (by omega) (wcell ⟨((s).regs d).kind, ⟨pl, ph⟩⟩ 1)).set (j := d * 3 + 2) (by omega) (wcell ⟨((s).regs d).kind, ⟨pl, ph⟩⟩ 2)).congr (simg_setat (s := s) dN ⟨pl, ph⟩ (fun _ => rfl))
              exact K
             have BU : But w5.heap.size w6 w7 := hW ▸ ((((But.refl w5.heap.size w6).setCell (.inl rfl) _)).setCell (.inl rfl) _)
             have HC7 := Lib.hid (HC6.out.but BU HAU.out)
             have HI7 := Lib.hid (BU.img HI6.out (by omega) nbU)
             have HBB := Lib.hid (but_new HB6.out BU (by omega))
             have HIU7 := Lib.hid IU7
             have HVS : Hid (VSOk (s.narrowed ⟨c, d, sr, false, o, nn⟩ ⟨pl, ph⟩ ⟨ql, qh⟩)) := HS.out.narrowed _ HBo.out.1 HBo.out.2
             clear hW IU7 BU d0 d1' d2 g0 g1' g2' HC6 HI6 HB6 f0 f1 f2 f3 f4 f5 p0 p1 q0 q1 a0' a1' a2' HIU
             generalize hNS : (s.narrowed ⟨c, d, sr, false, o, nn⟩ ⟨pl, ph⟩ ⟨ql, qh⟩) = ns at *
             have HNS := Lib.hid hNS
             clear hNS
             go_wp2_with (first | (with_reducible refine vl_load (by simp [go_sem]; done) 114 (.tmp 17) rfl w5.heap.size 0 (by simp [go_sem]; done) (scells wcell ns) _ (Img.scells HIU7.out) Tryd.underlying114 rfl (size_state _) ?_))
             rw [show ((pc : Int) + 1 + (o : Int)) = ((pc + 1 + o : Nat) : Int) by push_cast; rfl]
             have HKP := Lib.hid (vwalk_keeps HP.out f ns ((pc + 1 + o : Nat) : Int) k' HVS.out (by omega) (by have := HN2.out; exact_mod_cast this) (by push_cast; omega))
             have HK2' : Hid (K 2 = vwalk S f ns ((pc + 1 + o : Nat) : Int) k') := by show K 2 = _; rw [HK2.out, HXS.out, ← HKK.out]; rfl
             refine (HIH.out ns (pc + 1 + o) k' w7 HVS.out HN2.out (by omega) hk0' hk1' HKE'.out HC7.out HI7.out).mono ?_
             intro e w8 hp
             obtain ⟨v, rfl, hE, hI8, hB8⟩ := hp
             by_cases he : (vwalk S f ns ((pc + 1 + o : Nat) : Int) k').1.1 = 0
             ·obtain rfl := hE.nil0 he
              have HE0 := Lib.hid he
              have HI8 := Lib.hid hI8
              have HB8 := Lib.hid (HBB.out.trans hB8)
              have HL2 := Lib.hid (vwalk_looks f ns ((pc + 1 + o : Nat) : Int) k' hk1' HE0.out)
              clear he hE hI8 hB8
              go_wp2_with fail
              go_roundw
              case rel =>
               go_light
               exact ⟨2, (vwalk S f ns ((pc + 1 + o : Nat) : Int) k').2, by omega, by go_num, fun _ => HJ0.out, by rw [HK2'.out]; exact HE0.out, by rw [HK2'.out]; exact HKP.out.place HE0.out, by rw [HK2'.out], Int.le_trans hk0' HKP.out.looks, HL2.out, HKP.out.ok HKE'.out, HI8.out, HB8.out⟩
              case measure => simp [intOf]
             ·obtain ⟨ty, xv, rfl⟩ := hE.noIface he
              have HE0 := Lib.hid he
              have HE := Lib.hid hE
              have HI8 := Lib.hid hI8
              have HB8 := Lib.hid (HBB.out.trans hB8)
              clear he hE hI8 hB8
              go_wp2_with fail
              go_ret
              rw [HKR.out 1 (by omega) HJ0.out (by rw [HK2'.out]; exact HE0.out), HK2'.out]
              exact ⟨_, rfl, HE.out, HI8.out, (But.of HB2.out).trans HB8.out⟩
           | true =>
            by_cases hds : sr = d
            ·as_aux_lemma =>
              have hds2 := hds.symm; clear hds; subst hds2
              have d0 := HIU.out.cell (d * 3) (by omega); have d1' := HIU.out.cell (d * 3 + 1) (by omega); have d2 := HIU.out.cell (d * 3 + 2) (by omega); have g0 := HIU.out.free (d * 3) (by omega); have g1' := HIU.out.free (d * 3 + 1) (by omega); have g2' := HIU.out.free (d * 3 + 2) (by omega)
              clear d0
              obtain ⟨v0, d0⟩ : ∃ v, w6.cell? ⟨w5.heap.size, d * 3, none⟩ = some v := ⟨_, HIU.out.cell (d * 3) (by omega)⟩
              clear d1'
              obtain ⟨v1, d1'⟩ : ∃ v, w6.cell? ⟨w5.heap.size, d * 3 + 1, none⟩ = some v := ⟨_, HIU.out.cell (d * 3 + 1) (by omega)⟩
              clear d2
              obtain ⟨v2, d2⟩ : ∃ v, w6.cell? ⟨w5.heap.size, d * 3 + 2, none⟩ = some v := ⟨_, HIU.out.cell (d * 3 + 2) (by omega)⟩
              go_upto_region 17 with fail
              generalize hW : World.setCell (World.setCell w6 _ _) _ _ = wa
              have IUa : P.Img wa w5.heap.size 81 _ := hW ▸ (((HIU.out).set (j := d * 3 + 1) (by omega) (.int .i64 ql)).set (j := d * 3 + 2) (by omega) (.int .i64 qh))
              have BUwa : But w5.heap.size w6 wa := hW ▸ ((((But.refl w5.heap.size w6).setCell (.inl rfl) _)).setCell (.inl rfl) _)
              clear hW
              replace f1 := BUwa.cell f1 (by omega)
              replace f2 := BUwa.cell f2 (by omega)
              replace f3 := BUwa.cell f3 (by omega)
              replace p0 := BUwa.cell p0 (by omega)
              replace p1 := BUwa.cell p1 (by omega)
              replace q0 := BUwa.cell q0 (by omega)
              replace q1 := BUwa.cell q1 (by omega)
              replace a0' := BUwa.cell a0' (by omega)
              replace a1' := BUwa.cell a1' (by omega)
              replace a2' := BUwa.cell a2' (by omega)
              clear d0
              obtain ⟨vwa0, d0⟩ : ∃ v, wa.cell? ⟨w5.heap.size, d * 3, none⟩ = some v := ⟨_, IUa.cell (d * 3) (by omega)⟩
              replace g0 := IUa.free (d * 3) (by omega)
              clear d1'
              obtain ⟨vwa1, d1'⟩ : ∃ v, wa.cell? ⟨w5.heap.size, d * 3 + 1, none⟩ = some v := ⟨_, IUa.cell (d * 3 + 1) (by omega)⟩
              replace g1' := IUa.free (d * 3 + 1) (by omega)
              clear d2
              obtain ⟨vwa2, d2⟩ : ∃ v, wa.cell? ⟨w5.heap.size, d * 3 + 2, none⟩ = some v := ⟨_, IUa.cell (d * 3 + 2) (by omega)⟩
              replace g2' := IUa.free (d * 3 + 2) (by omega)
              have HIUa := Lib.hid IUa
              clear IUa
              go_upto_region 19 with fail
              generalize hW : World.setCell (World.setCell wa _ _) _ _ = wb
              have IUb : P.Img wb w5.heap.size 81 _ := hW ▸ ((HIUa.out.set (j := d * 3 + 1) (by omega) (.int .i64 pl)).set (j := d * 3 + 2) (by omega) (.int .i64 ph))
              have BUwb : But w5.heap.size wa wb := hW ▸ ((((But.refl w5.heap.size wa).setCell (.inl rfl) _)).setCell (.inl rfl) _)
              clear hW
              replace f1 := BUwb.cell f1 (by omega)
              replace f2 := BUwb.cell f2 (by omega)
              replace f3 := BUwb.cell f3 (by omega)
              replace p0 := BUwb.cell p0 (by omega)
              replace p1 := BUwb.cell p1 (by omega)
              replace q0 := BUwb.cell q0 (by omega)
              replace q1 := BUwb.cell q1 (by omega)
              replace a0' := BUwb.cell a0' (by omega)
              replace a1' := BUwb.cell a1' (by omega)
              replace a2' := BUwb.cell a2' (by omega)
              clear d0
              obtain ⟨vwb0, d0⟩ : ∃ v, wb.cell? ⟨w5.heap.size, d * 3, none⟩ = some v := ⟨_, IUb.cell (d * 3) (by omega)⟩
              replace g0 := IUb.free (d * 3) (by omega)
              clear d1'
              obtain ⟨vwb1, d1'⟩ : ∃ v, wb.cell? ⟨w5.heap.size, d * 3 + 1, none⟩ = some v := ⟨_, IUb.cell (d * 3 + 1) (by omega)⟩
              replace g1' := IUb.free (d * 3 + 1) (by omega)
              clear d2
              obtain ⟨vwb2, d2⟩ : ∃ v, wb.cell? ⟨w5.heap.size, d * 3 + 2, none⟩ = some v := ⟨_, IUb.cell (d * 3 + 2) (by omega)⟩
              replace g2' := IUb.free (d * 3 + 2) (by omega)
              have HIUb := Lib.hid IUb
              clear IUb
              go_upto_region 20 with fail
              generalize hW : World.setCell (World.setCell (World.setCell wb _ _) _ _) _ _ = w7
              have IU7 : P.Img w7 w5.heap.size 81 (simg wcell (s.narrowed ⟨c, d, d, true, o, nn⟩ ⟨pl, ph⟩ ⟨ql, qh⟩)) := by
               have e1 : (s.narrowed ⟨c, d, d, true, o, nn⟩ ⟨pl, ph⟩ ⟨ql, qh⟩) = s := by
                unfold VS.narrowed
                rw [if_pos rfl, if_pos rfl]
               rw [← hW, e1]
               refine (((HIUb.out.set (j := d * 3) (by omega) (.int .i64 1)).set (j := d * 3 + 1) (by omega) (.int .i64 xl)).set (j := d * 3 + 2) (by omega) (.int .i64 xh)).congr fun jj hjj => ?_
               have hx0 := HX.out
               by_cases q2 : jj = d * 3 + 2
               ·rw [q2, upd_same, simg_reg dN (by omega : 2 < 3) rfl, hx0]; rfl
               by_cases q1 : jj = d * 3 + 1
               ·rw [q1, upd_other (by omega), upd_same, simg_reg dN (by omega : 1 < 3) rfl, hx0]; rfl
               by_cases q0 : jj = d * 3
               ·rw [q0, upd_other (by omega), upd_other (by omega), upd_same, simg_reg dN (by omega : 0 < 3) (by omega), hx0]; rfl
               rw [upd_other q2, upd_other q1, upd_other q0, upd_other q2, upd_other q1, upd_other q2, upd_other q1]
              have BU : But w5.heap.size w6 w7 := (BUwa.trans BUwb).trans (hW ▸ ((((((But.refl w5.heap.size wb).setCell (.inl rfl) _)).setCell (.inl rfl) _)).setCell (.inl rfl) _))
              have HC7 := Lib.hid (HC6.out.but BU HAU.out)
              have HI7 := Lib.hid (BU.img HI6.out (by omega) nbU)
              have HBB := Lib.hid (but_new HB6.out BU (by omega))
              have HIU7 := Lib.hid IU7
              have HVS : Hid (VSOk (s.narrowed ⟨c, d, d, true, o, nn⟩ ⟨pl, ph⟩ ⟨ql, qh⟩)) := HS.out.narrowed _ HBo.out.1 HBo.out.2
              clear hW IU7 BU d0 d1' d2 g0 g1' g2' HC6 HI6 HB6 f0 f1 f2 f3 f4 f5 p0 p1 q0 q1 a0' a1' a2' HIU
              generalize hNS : (s.narrowed ⟨c, d, d, true, o, nn⟩ ⟨pl, ph⟩ ⟨ql, qh⟩) = ns at *
              have HNS := Lib.hid hNS
              clear hNS
              go_wp2_with (first | (with_reducible refine vl_load (by simp [go_sem]; done) 114 (.tmp 17) rfl w5.heap.size 0 (by simp [go_sem]; done) (scells wcell ns) _ (Img.scells HIU7.out) Tryd.underlying114 rfl (size_state _) ?_))
              rw [show ((pc : Int) + 1 + (o : Int)) = ((pc + 1 + o : Nat) : Int) by push_cast; rfl]
              have HKP := Lib.hid (vwalk_keeps HP.out f ns ((pc + 1 + o : Nat) : Int) k' HVS.out (by omega) (by have := HN2.out; exact_mod_cast this) (by push_cast; omega))
              have HK2' : Hid (K 2 = vwalk S f ns ((pc + 1 + o : Nat) : Int) k') := by show K 2 = _; rw [HK2.out, HXS.out, ← HKK.out]; rfl
              refine (HIH.out ns (pc + 1 + o) k' w7 HVS.out HN2.out (by omega) hk0' hk1' HKE'.out HC7.out HI7.out).mono ?_
              intro e w8 hp
              obtain ⟨v, rfl, hE, hI8, hB8⟩ := hp
              by_cases he : (vwalk S f ns ((pc + 1 + o : Nat) : Int) k').1.1 = 0
              ·obtain rfl := hE.nil0 he
               have HE0 := Lib.hid he
               have HI8 := Lib.hid hI8
               have HB8 := Lib.hid (HBB.out.trans hB8)
               have HL2 := Lib.hid (vwalk_looks f ns ((pc + 1 + o : Nat) : Int) k' hk1' HE0.out)
               clear he hE hI8 hB8
               go_wp2_with fail
               go_roundw
               case rel =>
                go_light
                exact ⟨2, (vwalk S f ns ((pc + 1 + o : Nat) : Int) k').2, by omega, by go_num, fun _ => HJ0.out, by rw [HK2'.out]; exact HE0.out, by rw [HK2'.out]; exact HKP.out.place HE0.out, by rw [HK2'.out], Int.le_trans hk0' HKP.out.looks, HL2.out, HKP.out.ok HKE'.out, HI8.out, HB8.out⟩
               case measure => simp [intOf]
              ·obtain ⟨ty, xv, rfl⟩ := hE.noIface he
               have HE0 := Lib.hid he
               have HE := Lib.hid hE
               have HI8 := Lib.hid hI8
               have HB8 := Lib.hid (HBB.out.trans hB8)
               clear he hE hI8 hB8
               go_wp2_with fail
               go_ret
               rw [HKR.out 1 (by omega) HJ0.out (by rw [HK2'.out]; exact HE0.out), HK2'.out]
               exact ⟨_, rfl, HE.out, HI8.out, (But.of HB2.out).trans HB8.out⟩
            ·as_aux_lemma =>
              have d0 := HIU.out.cell (d * 3) (by omega); have d1' := HIU.out.cell (d * 3 + 1) (by omega); have d2 := HIU.out.cell (d * 3 + 2) (by omega); have g0 := HIU.out.free (d * 3) (by omega); have g1' := HIU.out.free (d * 3 + 1) (by omega); have g2' := HIU.out.free (d * 3 + 2) (by omega)
              have l1' := HIU.out.cell (sr * 3 + 1) (by omega); have l2 := HIU.out.cell (sr * 3 + 2) (by omega); have m1' := HIU.out.free (sr * 3 + 1) (by omega); have m2' := HIU.out.free (sr * 3 + 2) (by omega)
              have ds := vbeq_no (show (sr : Int) ≠ d by omega)
              have m11 : ¬ sr * 3 + 1 = d * 3 + 1 := by omega
              have m12 : ¬ sr * 3 + 1 = d * 3 + 2 := by omega
              have m21 : ¬ sr * 3 + 2 = d * 3 + 1 := by omega
              have m22 : ¬ sr * 3 + 2 = d * 3 + 2 := by omega
              have n11 : ¬ d * 3 + 1 = sr * 3 + 1 := by omega
              have n12 : ¬ d * 3 + 1 = sr * 3 + 2 := by omega
              have n21 : ¬ d * 3 + 2 = sr * 3 + 1 := by omega
              have n22 : ¬ d * 3 + 2 = sr * 3 + 2 := by omega
              go_upto_region 20 with fail
              generalize hW : World.setCell (World.setCell (World.setCell (World.setCell w6 _ _) _ _) _ _) _ _ = w7
              have IU7 : P.Img w7 w5.heap.size 81 (simg wcell (s.narrowed ⟨c, d, sr, true, o, nn⟩ ⟨pl, ph⟩ ⟨ql, qh⟩)) := by
               have e1 : (s.narrowed ⟨c, d, sr, true, o, nn⟩ ⟨pl, ph⟩ ⟨ql, qh⟩) = { s with regs := upd (upd s.regs sr ⟨(s.regs sr).kind, ⟨ql, qh⟩⟩) d ⟨(s.regs d).kind, ⟨pl, ph⟩⟩ } := by
                unfold VS.narrowed
                rw [if_pos rfl, if_neg (by simp only; omega)]
                rfl
               rw [← hW, e1]
               have K1 := (((HIU.out).set (j := sr * 3 + 1) (by omega) (wcell ⟨((s).regs sr).kind, ⟨ql, qh⟩⟩ 1)).set (j := sr * 3 + 2) (by omega) (wcell ⟨((s).regs sr).kind, ⟨ql, qh⟩⟩ 2)).congr (simg_setat (s := s) sN ⟨ql, qh⟩ (fun _ => rfl))
               have K2 := (((K1).set (j := d * 3 + 1) (by omega) (wcell ⟨((({ s with regs := upd s.regs sr ⟨(s.regs sr).kind, ⟨ql, qh⟩⟩ } : VS)).regs d).kind, ⟨pl, ph⟩⟩ 1)).set (j := d * 3 + 2) (by omega) (wcell ⟨((({ s with regs := upd s.regs sr ⟨(s.regs sr).kind, ⟨ql, qh⟩⟩ } : VS)).regs d).kind, ⟨pl, ph⟩⟩ 2)).congr (simg_setat (s := ({ s with regs := upd s.regs sr ⟨(s.regs sr).kind, ⟨ql, qh⟩⟩ } : VS)) dN ⟨pl, ph⟩ (fun _ => rfl))
               have e2 : upd s.regs sr ⟨(s.regs sr).kind, ⟨ql, qh⟩⟩ d = s.regs d := upd_other (by omega)
               simp only [e2] at K2
               exact K2
              have BU : But w5.heap.size w6 w7 := hW ▸ ((((((((But.refl w5.heap.size w6).setCell (.inl rfl) _)).setCell (.inl rfl) _)).setCell (.inl rfl) _)).setCell (.inl rfl) _)
              have HC7 := Lib.hid (HC6.out.but BU HAU.out)
              have HI7 := Lib.hid (BU.img HI6.out (by omega) nbU)
              have HBB := Lib.hid (but_new HB6.out BU (by omega))
              have HIU7 := Lib.hid IU7
              have HVS : Hid (VSOk (s.narrowed ⟨c, d, sr, true, o, nn⟩ ⟨pl, ph⟩ ⟨ql, qh⟩)) := HS.out.narrowed _ HBo.out.1 HBo.out.2
              clear hW IU7 BU d0 d1' d2 g0 g1' g2' HC6 HI6 HB6 f0 f1 f2 f3 f4 f5 p0 p1 q0 q1 a0' a1' a2' HIU l1' l2 m1' m2'
              generalize hNS : (s.narrowed ⟨c, d, sr, true, o, nn⟩ ⟨pl, ph⟩ ⟨ql, qh⟩) = ns at *
              have HNS := Lib.hid hNS
              clear hNS
              go_wp2_with (first | (with_reducible refine vl_load (by simp [go_sem]; done) 114 (.tmp 17) rfl w5.heap.size 0 (by simp [go_sem]; done) (scells wcell ns) _ (Img.scells HIU7.out) Tryd.underlying114 rfl (size_state _) ?_))
              rw [show ((pc : Int) + 1 + (o : Int)) = ((pc + 1 + o : Nat) : Int) by push_cast; rfl]
              have HKP := Lib.hid (vwalk_keeps HP.out f ns ((pc + 1 + o : Nat) : Int) k' HVS.out (by omega) (by have := HN2.out; exact_mod_cast this) (by push_cast; omega))
              have HK2' : Hid (K 2 = vwalk S f ns ((pc + 1 + o : Nat) : Int) k') := by show K 2 = _; rw [HK2.out, HXS.out, ← HKK.out]; rfl
              refine (HIH.out ns (pc + 1 + o) k' w7 HVS.out HN2.out (by omega) hk0' hk1' HKE'.out HC7.out HI7.out).mono ?_
              intro e w8 hp
              obtain ⟨v, rfl, hE, hI8, hB8⟩ := hp
              by_cases he : (vwalk S f ns ((pc + 1 + o : Nat) : Int) k').1.1 = 0
              ·obtain rfl := hE.nil0 he
               have HE0 := Lib.hid he
               have HI8 := Lib.hid hI8
               have HB8 := Lib.hid (HBB.out.trans hB8)
               have HL2 := Lib.hid (vwalk_looks f ns ((pc + 1 + o : Nat) : Int) k' hk1' HE0.out)
               clear he hE hI8 hB8
               go_wp2_with fail
               go_roundw
               case rel =>
                go_light
                exact ⟨2, (vwalk S f ns ((pc + 1 + o : Nat) : Int) k').2, by omega, by go_num, fun _ => HJ0.out, by rw [HK2'.out]; exact HE0.out, by rw [HK2'.out]; exact HKP.out.place HE0.out, by rw [HK2'.out], Int.le_trans hk0' HKP.out.looks, HL2.out, HKP.out.ok HKE'.out, HI8.out, HB8.out⟩
               case measure => simp [intOf]
              ·obtain ⟨ty, xv, rfl⟩ := hE.noIface he
               have HE0 := Lib.hid he
               have HE := Lib.hid hE
               have HI8 := Lib.hid hI8
               have HB8 := Lib.hid (HBB.out.trans hB8)
               clear he hE hI8 hB8
               go_wp2_with fail
               go_ret
               rw [HKR.out 1 (by omega) HJ0.out (by rw [HK2'.out]; exact HE0.out), HK2'.out]
               exact ⟨_, rfl, HE.out, HI8.out, (But.of HB2.out).trans HB8.out⟩
     ·obtain rfl : j = 2 := by omega
      have hj3 : ¬ (2 : Int) < 2 := by omega
      have h21 : (K 1).1.1 = 0 := HJ20.out rfl
      have HE : Hid (waysOf (vwalk S f) pc k (.go X Y) = ((0, -1), k')) := by
       show waysOf (vwalk S f) pc k (.go X Y) = ((0, -1), k')
       rw [HKE2.out h21, HKK.out]
       have e1 := HJ0.out; have e2 := HJP.out
       generalize K 2 = q at *
       obtain ⟨⟨a1, a2⟩, a3⟩ := q
       simp only at e1 e2
       rw [e1, e2]
      clear h21
      go_wp2_with fail
      go_ret
      rw [HE.out]
      exact ⟨_, rfl, .inl ⟨rfl, rfl, rfl⟩, HI'.out, (But.of HB2.out).trans HB'.out⟩
  rw [if_neg h1] at hR
  by_cases h2 : r = true ∨ nn ≠ 0 ∨ (c ≠ 15 ∧ c ≠ 16)
  ·rw [if_pos h2] at hR
   subst hR
   as_aux_lemma =>
    have t0 := vbeq_no (show x.kind ≠ 0 by omega)
    have t1 := vbeq_no (show y.kind ≠ 0 by omega)
    have hd : ((x.kind == 1) = false) ∨ ((x.kind == 1) = true ∧ (y.kind == 1) = false) := by
     by_cases e : x.kind = 1
     ·exact .inr ⟨vbeq_yes e, vbeq_no (by omega)⟩
     ·exact .inl (vbeq_no e)
    have he : r = true ∨ (r = false ∧ (nn != 0) = true) ∨ (r = false ∧ (nn != 0) = false ∧ (c != 15) = true ∧ (c != 16) = true) := by
     cases r with
     | true => exact .inl rfl
     | false =>
      by_cases e : nn = 0
      ·exact .inr (.inr ⟨rfl, vbne_no e, vbne_yes (by simp [e] at h2; omega), vbne_yes (by simp [e] at h2; omega)⟩)
      ·exact .inr (.inl ⟨rfl, vbne_yes e⟩)
    clear h0 h1 h2
    rcases hd with t2 | ⟨t2, t3⟩
    all_goals rcases he with rfl | ⟨rfl, t4⟩ | ⟨rfl, t4, t5, t6⟩
    all_goals
     go_wp2_with fail
     refine (At_any _ _ _).mono ?_
     rintro e w3 ⟨rfl, q0, q1, q2, hb3⟩
     have HB3 := Lib.hid hb3
     clear hb3
     go_wp2_with fail
     go_ret
     exact ⟨_, rfl, .inr (.inr ⟨show (1 : Int) ≠ 0 by decide, _, rfl, q0, q1⟩), HI2.out.later HB3.out zb, But.of (HB2.out.trans (HB3.out.mono z2))⟩
  ·rw [if_neg h2] at hR
   as_aux_lemma =>
    have hr : r = false := by cases r <;> simp_all
    subst hr
    have hn0 : nn = 0 := by omega
    subst hn0
    have hy1 : y = Wh.num (bone 0) := HY.out.symm
    subst hy1
    have x1 : x.kind ≠ 1 := fun e => h1 ⟨e, rfl⟩
    have t0 := vbeq_no (show x.kind ≠ 0 by omega)
    have t1 := vbeq_no x1
    have hc2 : c = 15 ∨ c = 16 := by omega
    obtain ⟨ol, oh⟩ := HTT.out.2.1 (.inr (show 15 ≤ c ∧ c ≤ 24 from by omega))
    simp only at ol oh
    obtain ⟨o, rfl⟩ := Int.eq_ofNat_of_zero_le ol
    have s1 : IntKind.i64.wrap ((pc : Int) + 1) = (pc : Int) + 1 := IntWalk.i64_in _ (by omega)
    have s2 : IntKind.i64.wrap ((pc : Int) + 1 + (o : Int)) = (pc : Int) + 1 + (o : Int) := IntWalk.i64_in _ (by omega)
    have HN1 : Hid (pc + 1 < n) := by show pc + 1 < n; omega
    have HN2 : Hid (pc + 1 + o < n) := by show pc + 1 + o < n; omega
    clear h0 h1 h2 x1 ol oh
    rcases hc2 with rfl | rfl
    ·have HR2 : Hid ((if x.kind = 5 then VRes.go (some (s.setReg d (.num (bone 0)), ((pc + 1 + o : Nat) : Int))) (some (s.setReg d ⟨4, bone 0⟩, ((pc + 1 : Nat) : Int))) else VRes.go (some (s, ((pc + 1 : Nat) : Int))) none) = R) := hR
     clear hR
     as_aux_lemma =>
      replace b0 : w2.cell? ⟨B, 0, none⟩ = some (.int .i64 1) := b0
      go_upto_region 27 with fail
      go_cut [19, 20] (fun p q wx => p = .int .i64 ↑(pc + 1) ∧ q = .int .i64 ↑(pc + 1 + o) ∧ ∃ m : Nat, wx = w2.drewN m)
      case first =>
       as_aux_lemma =>
        go_quiet (fail)
        go_wp2_with fail
        go_meet
        go_light
        exact ⟨by first | rfl | (push_cast; rfl), by first | rfl | (push_cast; rfl), nq, rfl⟩
      case rest =>
       obtain ⟨rfl, rfl, md, hmd⟩ := hcut
       obtain ⟨w3, hw3⟩ : ∃ x, x = wc := ⟨_, rfl⟩; subst hw3
       have hb3 : Below w2.heap.size w2 w3 := hmd ▸ Below.drewN' (Below.refl _ _) _
       have HB3 := Lib.hid hb3
       clear hmd
       have HIS3 := Lib.hid (HIS.out.later hb3 zs)
       have HC3 := Lib.hid (HC2.out.later hb3)
       have HI3 := Lib.hid (HI2.out.later hb3 zb)
       have IT3 := HIT.out.later hb3 zt
       have IA3 := HIA.out.later hb3 zA
       obtain ⟨f0, f1, f2, f3, f4, f5⟩ := tcells IT3
       obtain ⟨a0, a1, a2⟩ := wcells IA3
       simp only at f0 f1 f2 f3 f4 f5
       have z3 : w2.heap.size ≤ w3.heap.size := hb3.size
       have y1 : w.heap.size + 1 < w3.heap.size := by omega
       have y2 : A < w3.heap.size := by omega
       have y3 : w.heap.size < w3.heap.size := by omega
       have y4 : b < w3.heap.size := by omega
       have HIT3 := Lib.hid IT3
       have HIA3 := Lib.hid IA3
       clear hb3 IT3 IA3 HIS HC2 HI2 HIT HIA
       go_upto_region 30 with fail
       go_cut [21] (fun p wx => p = .pointer (some ⟨w3.heap.size, 0, none⟩) ∧ P.Img wx w3.heap.size 81 (simg wcell s) ∧ Below w3.heap.size w3 wx)
       case first =>
        as_aux_lemma =>
         go_wp2_with (first | (with_reducible refine vl_load (by simp [go_sem]; done) 114 (.tmp 4) rfl w.heap.size 0 (by simp [go_sem]; done) (scells wcell s) _ (Img.scells HIS3.out) Tryd.underlying114 rfl (size_state _) ?_) | (with_reducible refine wpList_store_mid rfl 114 (.tmp 21) (.tmp 155) rfl w3.heap.size 0 (scells wcell s).toArray (by simp [go_sem]; done) (by simp [go_sem]; done) (vthere_new (by rw [List.size_toArray, scells_length]; kernel_rfl)) (size_state' _) (one_state _) ?_))
         go_meet
         go_light
         refine ⟨rfl, state_put (vthere_new (by rw [List.size_toArray, scells_length]; kernel_rfl)), rsetCells (Nat.le_refl _) _ _ _ _ ((Below.refl _ _).alloc (Nat.le_refl _) _)⟩
       case rest =>
        obtain ⟨rfl, IU, hb4⟩ := hcut
        obtain ⟨w4, hw4⟩ : ∃ x, x = wc := ⟨_, rfl⟩; subst hw4
        have HIT4 := Lib.hid (HIT3.out.later hb4 y1)
        have HC4 := Lib.hid (HC3.out.later hb4)
        have HI4 := Lib.hid (HI3.out.later hb4 y4)
        obtain ⟨f0, f1, f2, f3, f4, f5⟩ := tcells HIT4.out
        obtain ⟨a0, a1, a2⟩ := wcells (HIA3.out.later hb4 y2)
        simp only at f0 f1 f2 f3 f4 f5
        have HIU := Lib.hid IU
        have zu := IU.lt (by omega)
        have z4 : w3.heap.size ≤ w4.heap.size := hb4.size
        have HBW := Lib.hid (HB2.out.trans ((HB3.out.mono z2).trans (hb4.mono (by omega))))
        have yt : w.heap.size + 1 < w4.heap.size := by omega
        have yb : b < w4.heap.size := by omega
        have yA : A < w4.heap.size := by omega
        have nUb : ¬ w3.heap.size = b := by omega
        have nbU : ¬ b = w3.heap.size := by omega
        have HAU : Hid (a.block ≠ w3.heap.size) := by show a.block ≠ w3.heap.size; have hbl : (a.add (pc * 6)).block = a.block := (by unfold Addr.add; split <;> rfl); omega
        clear hb4 IU HIS3 HIA3 HIT3 HC3 HI3 HB3 HB2
        by_cases k5 : x.kind = 5
        ·have hR2 := HR2.out
         rw [if_pos k5] at hR2
         subst hR2
         have t5 := vbeq_yes k5
         clear k5
         as_aux_lemma =>
          go_wp2_with fail
          have CO := Lib.hid (show ∀ wd dr os, Calls Tryd.prog 35 #[.int .i64 0] (Go.Sort.grow (redrawn wd dr) os) fun e w' => e = .returned (.agg #[.int .i64 0, .int .i64 0]) ∧ ∃ p : Regrown, w' = Go.Sort.grow (redrawn wd p.d) p.os from fun wd dr os => Calls.regrown_of (One_any 0 _))
          have CN := Lib.hid (show ∀ wd dr os, Calls Tryd.prog 67 #[.agg #[.int .i64 0, .int .i64 0]] (Go.Sort.grow (redrawn wd dr) os) fun e w' => e = .returned (.agg #[.int .i64 1, .int .i64 0, .int .i64 0]) ∧ ∃ p : Regrown, w' = Go.Sort.grow (redrawn wd p.d) p.os from fun wd dr os => Calls.regrown_of (VNumber_any 0 0 _))
          have q1 := cell_regrown f1
          refine wp_below_tail 6 (by kernel_rfl) (by kernel_rfl) ?_
          repeat (quiet_step (first | exact CO.out _ _ _ | exact CN.out _ _ _))
          refine wpQuiet_nil ?_
          intro wq hwq
          have hbq : Below w4.heap.size w4 wq := by
           obtain ⟨p, hp⟩ := hwq
           rw [hp]; exact below_regrown _ _ _
          clear hwq q1
          have IQ := HIU.out.later hbq zu
          have d0 := IQ.cell (d * 3) (by omega); have d1' := IQ.cell (d * 3 + 1) (by omega); have d2 := IQ.cell (d * 3 + 2) (by omega)
          have g0 := IQ.free (d * 3) (by omega); have g1' := IQ.free (d * 3 + 1) (by omega); have g2' := IQ.free (d * 3 + 2) (by omega)
          have HIQ := Lib.hid IQ
          have HBQ := Lib.hid hbq
          have zqU : w3.heap.size < wq.heap.size := IQ.lt (by omega)
          clear IQ hbq CO CN
          go_upto_region 33 with fail
          generalize hW : World.setCell (World.setCell (World.setCell wq _ _) _ _) _ _ = w5
          have IU5 : P.Img w5 w3.heap.size 81 (simg wcell (s.setReg d (.num (bone 0)))) := by
           rw [← hW]
           have K := (((HIQ.out.set (j := d * 3) (by omega) (wcell (.num (bone 0)) 0)).set (j := d * 3 + 1) (by omega) (wcell (.num (bone 0)) 1)).set (j := d * 3 + 2) (by omega) (wcell (.num (bone 0)) 2)).congr (simg_setreg dN (.num (bone 0)))
           exact K
          have B5 : Below w3.heap.size w4 w5 := hW ▸ (((HBQ.out.mono z4).setCell (by simp) _).setCell (by simp) _).setCell (by simp) _
          have HIU5 := Lib.hid IU5
          have hC5 : Cells w5 a S n := (HC4.out.later HBQ.out).but (hW ▸ (((But.refl w3.heap.size wq).setCell (.inl rfl) _).setCell (.inl rfl) _).setCell (.inl rfl) _) HAU.out
          have hI5 : P.Img w5 b 5 (wimg (.slice (some a) n cap) k) := HI4.out.later B5 (by omega)
          have g1 : w5.cell? ⟨w.heap.size + 1, 1, none⟩ = some (.int .i64 d) := (B5.cell (p := ⟨w.heap.size + 1, 1, none⟩) y1).trans f1
          have HC5 := Lib.hid hC5
          have HI5 := Lib.hid hI5
          have HBW5 := Lib.hid (HBW.out.trans (B5.mono (by omega)))
          have zu5 := IU5.lt (by omega)
          have y15 : w.heap.size + 1 < w5.heap.size := by omega
          clear hW IU5 B5 hC5 hI5 d0 d1' d2 g0 g1' g2' f0 f1 f2 f3 f4 f5 a0 a1 a2 HIQ HBQ HIU HI4 HC4 HBW
          go_wp2_with (first | (with_reducible refine vl_load (by simp [go_sem]; done) 114 (.tmp 21) rfl w3.heap.size 0 (by simp [go_sem]; done) (scells wcell (s.setReg d (.num (bone 0)))) _ (Img.scells HIU5.out) Tryd.underlying114 rfl (size_state _) ?_))
          rw [show ((pc : Int) + 1 + (o : Int)) = ((pc + 1 + o : Nat) : Int) by push_cast; rfl]
          refine (HIH.out (s.setReg d (.num (bone 0))) (pc + 1 + o) k w5 (HS.out.setReg _ (WOk.num (bone_ok in64_0))) HN2.out (by omega) hk0 hk1 HKE.out HC5.out HI5.out).mono ?_
          intro e w6 hp
          obtain ⟨v, rfl, hE, hI6, hB6⟩ := hp
          by_cases he : (vwalk S f (s.setReg d (.num (bone 0))) ((pc + 1 + o : Nat) : Int) k).1.1 = 0
          ·obtain rfl := hE.nil0 he
           have HE0 := Lib.hid he
           have g1' := hB6.cell g1 (show w.heap.size + 1 ≠ b by omega)
           have HI6 := Lib.hid hI6
           have HB6 := Lib.hid hB6
           have IU6 := hB6.img HIU5.out (by omega) nUb
           have HIU6 := Lib.hid IU6
           have HC6 := Lib.hid (HC5.out.but hB6 hab)
           have zu6 := IU6.lt (by omega)
           have z6 : w5.heap.size ≤ w6.heap.size := hB6.size
           have y16 : w.heap.size + 1 < w6.heap.size := by omega
           have yb6 : b < w6.heap.size := by omega
           clear he hE hI6 hB6 IU6 g1 HIU5 HC5 HI5
           go_wp2_with fail
           have CO := Lib.hid (show ∀ wd dr os, Calls Tryd.prog 35 #[.int .i64 0] (Go.Sort.grow (redrawn wd dr) os) fun e w' => e = .returned (.agg #[.int .i64 0, .int .i64 0]) ∧ ∃ p : Regrown, w' = Go.Sort.grow (redrawn wd p.d) p.os from fun wd dr os => Calls.regrown_of (One_any 0 _))
           have q1 := cell_regrown g1'
           refine wp_below_tail 6 (by kernel_rfl) (by kernel_rfl) ?_
           repeat (quiet_step (exact CO.out _ _ _))
           refine wpQuiet_nil ?_
           intro wz hwz
           have hbz : Below w6.heap.size w6 wz := by
            obtain ⟨p, hp⟩ := hwz
            rw [hp]; exact below_regrown _ _ _
           clear hwz q1
           have IZ := HIU6.out.later hbz zu6
           have d0 := IZ.cell (d * 3) (by omega); have d1' := IZ.cell (d * 3 + 1) (by omega); have d2 := IZ.cell (d * 3 + 2) (by omega)
           have g0 := IZ.free (d * 3) (by omega); have h1' := IZ.free (d * 3 + 1) (by omega); have h2' := IZ.free (d * 3 + 2) (by omega)
           have HIZ := Lib.hid IZ
           have HBZ := Lib.hid hbz
           clear IZ hbz CO
           go_upto_region 37 with fail
           generalize hW : World.setCell (World.setCell (World.setCell wz _ _) _ _) _ _ = w7
           have IU7 : P.Img w7 w3.heap.size 81 (simg wcell (s.setReg d ⟨4, bone 0⟩)) := by
            rw [← hW]
            have K := (((HIZ.out.set (j := d * 3) (by omega) (wcell ⟨4, bone 0⟩ 0)).set (j := d * 3 + 1) (by omega) (wcell ⟨4, bone 0⟩ 1)).set (j := d * 3 + 2) (by omega) (wcell ⟨4, bone 0⟩ 2)).congr (simg_setreg dN ⟨4, bone 0⟩)
            rw [show (s.setReg d ⟨4, bone 0⟩) = { (s.setReg d (.num (bone 0))) with regs := upd (s.setReg d (.num (bone 0))).regs d ⟨4, bone 0⟩ } from by unfold VS.setReg; simp only [Int.toNat_natCast, vupd_upd]]
            exact K
           have BU : But w3.heap.size wz w7 := hW ▸ (((But.refl w3.heap.size wz).setCell (.inl rfl) _).setCell (.inl rfl) _).setCell (.inl rfl) _
           have hC7 : Cells w7 a S n := (HC6.out.later HBZ.out).but BU HAU.out
           have hI7 : P.Img w7 b 5 (wimg (.slice (some a) n cap) (vwalk S f (s.setReg d (.num (bone 0))) ((pc + 1 + o : Nat) : Int) k).2) := BU.img (HI6.out.later HBZ.out yb6) (by omega) nbU
           have HIU7 := Lib.hid IU7
           have HC7 := Lib.hid hC7
           have HI7 := Lib.hid hI7
           have HBB := Lib.hid (but_new (((But.of HBW5.out).trans HB6.out).trans (But.of HBZ.out)) BU (by omega))
           clear hW IU7 BU hC7 hI7 d0 d1' d2 g0 h1' h2' HIZ HBZ HIU6 HC6 g1'
           go_wp2_with (first | (with_reducible refine vl_load (by simp [go_sem]; done) 114 (.tmp 21) rfl w3.heap.size 0 (by simp [go_sem]; done) (scells wcell (s.setReg d ⟨4, bone 0⟩)) _ (Img.scells HIU7.out) Tryd.underlying114 rfl (size_state _) ?_))
           rw [show ((pc : Int) + 1) = ((pc + 1 : Nat) : Int) by push_cast; rfl]
           have HKP := Lib.hid (vwalk_keeps HP.out f (s.setReg d (.num (bone 0))) ((pc + 1 + o : Nat) : Int) k (HS.out.setReg _ (WOk.num (bone_ok in64_0))) (by omega) (by have := HN2.out; exact_mod_cast this) (by push_cast; omega))
           have HL2 := Lib.hid (vwalk_looks f (s.setReg d (.num (bone 0))) ((pc + 1 + o : Nat) : Int) k hk1 HE0.out)
           refine (HIH.out (s.setReg d ⟨4, bone 0⟩) (pc + 1) (vwalk S f (s.setReg d (.num (bone 0))) ((pc + 1 + o : Nat) : Int) k).2 w7 (HS.out.setReg _ ⟨by simp, bone_ok in64_0⟩) HN1.out (by omega) (Int.le_trans hk0 HKP.out.looks) HL2.out (HKP.out.ok HKE.out) HC7.out HI7.out).mono ?_
           intro e w8 hp
           obtain ⟨v, rfl, hE, hI8, hB8⟩ := hp
           have HE := Lib.hid hE
           have HI8 := Lib.hid hI8
           have HB8 := Lib.hid hB8
           clear hE hI8 hB8
           go_wp2_with fail
           go_ret
           rw [ways_second HE0.out]
           exact ⟨_, rfl, HE.out, HI8.out, HBB.out.trans HB8.out⟩
          ·obtain ⟨ty, xv, rfl⟩ := hE.noIface he
           have HE0 := Lib.hid he
           have HE := Lib.hid hE
           have HI6 := Lib.hid hI6
           have HB6 := Lib.hid hB6
           clear he hE hI6 hB6
           go_wp2_with fail
           go_ret
           rw [ways_first HE0.out]
           exact ⟨_, rfl, HE.out, HI6.out, (But.of HBW5.out).trans HB6.out⟩
        ·have hR2 := HR2.out
         rw [if_neg k5] at hR2
         subst hR2
         have t5 := vbeq_no k5
         clear k5
         as_aux_lemma =>
          go_wp2_with (first | (with_reducible refine vl_load (by simp [go_sem]; done) 114 (.tmp 21) rfl w3.heap.size 0 (by simp [go_sem]; done) (scells wcell s) _ (Img.scells HIU.out) Tryd.underlying114 rfl (size_state _) ?_))
          rw [show ((pc : Int) + 1) = ((pc + 1 : Nat) : Int) by push_cast; rfl]
          refine (HIH.out s (pc + 1) k w4 HS.out HN1.out (by omega) hk0 hk1 HKE.out HC4.out HI4.out).mono ?_
          intro e w6 hp
          obtain ⟨v, rfl, hE, hI6, hB6⟩ := hp
          have HE := Lib.hid hE
          have HI6 := Lib.hid hI6
          have HB6 := Lib.hid hB6
          clear hE hI6 hB6
          go_wp2_with fail
          go_ret
          rw [ways_one (fun h0 => (vwalk_keeps HP.out f s _ k HS.out (by omega) (by have := HN1.out; exact_mod_cast this) (by push_cast; omega)).place h0)]
          exact ⟨_, rfl, HE.out, HI6.out, (But.of HBW.out).trans HB6.out⟩
    ·have HR2 : Hid ((if x.kind = 5 then VRes.go (some (s.setReg d (.num (bone 0)), ((pc + 1 : Nat) : Int))) (some (s.setReg d ⟨4, bone 0⟩, ((pc + 1 + o : Nat) : Int))) else VRes.go (some (s, ((pc + 1 + o : Nat) : Int))) none) = R) := hR
     clear hR
     as_aux_lemma =>
      replace b0 : w2.cell? ⟨B, 0, none⟩ = some (.int .i64 1) := b0
      go_upto_region 27 with fail
      go_cut [19, 20] (fun p q wx => p = .int .i64 ↑(pc + 1) ∧ q = .int .i64 ↑(pc + 1 + o) ∧ ∃ m : Nat, wx = w2.drewN m)
      case first =>
       as_aux_lemma =>
        go_quiet (fail)
        go_wp2_with fail
        go_meet
        go_light
        exact ⟨by first | rfl | (push_cast; rfl), by first | rfl | (push_cast; rfl), nq, rfl⟩
      case rest =>
       obtain ⟨rfl, rfl, md, hmd⟩ := hcut
       obtain ⟨w3, hw3⟩ : ∃ x, x = wc := ⟨_, rfl⟩; subst hw3
       have hb3 : Below w2.heap.size w2 w3 := hmd ▸ Below.drewN' (Below.refl _ _) _
       have HB3 := Lib.hid hb3
       clear hmd
       have HIS3 := Lib.hid (HIS.out.later hb3 zs)
       have HC3 := Lib.hid (HC2.out.later hb3)
       have HI3 := Lib.hid (HI2.out.later hb3 zb)
       have IT3 := HIT.out.later hb3 zt
       have IA3 := HIA.out.later hb3 zA
       obtain ⟨f0, f1, f2, f3, f4, f5⟩ := tcells IT3
       obtain ⟨a0, a1, a2⟩ := wcells IA3
       simp only at f0 f1 f2 f3 f4 f5
       have z3 : w2.heap.size ≤ w3.heap.size := hb3.size
       have y1 : w.heap.size + 1 < w3.heap.size := by omega
       have y2 : A < w3.heap.size := by omega
       have y3 : w.heap.size < w3.heap.size := by omega
       have y4 : b < w3.heap.size := by omega
       have HIT3 := Lib.hid IT3
       have HIA3 := Lib.hid IA3
       clear hb3 IT3 IA3 HIS HC2 HI2 HIT HIA
       go_upto_region 30 with fail
       go_cut [21] (fun p wx => p = .pointer (some ⟨w3.heap.size, 0, none⟩) ∧ P.Img wx w3.heap.size 81 (simg wcell s) ∧ Below w3.heap.size w3 wx)
       case first =>
        as_aux_lemma =>
         go_wp2_with (first | (with_reducible refine vl_load (by simp [go_sem]; done) 114 (.tmp 4) rfl w.heap.size 0 (by simp [go_sem]; done) (scells wcell s) _ (Img.scells HIS3.out) Tryd.underlying114 rfl (size_state _) ?_) | (with_reducible refine wpList_store_mid rfl 114 (.tmp 21) (.tmp 155) rfl w3.heap.size 0 (scells wcell s).toArray (by simp [go_sem]; done) (by simp [go_sem]; done) (vthere_new (by rw [List.size_toArray, scells_length]; kernel_rfl)) (size_state' _) (one_state _) ?_))
         go_meet
         go_light
         refine ⟨rfl, state_put (vthere_new (by rw [List.size_toArray, scells_length]; kernel_rfl)), rsetCells (Nat.le_refl _) _ _ _ _ ((Below.refl _ _).alloc (Nat.le_refl _) _)⟩
       case rest =>
        obtain ⟨rfl, IU, hb4⟩ := hcut
        obtain ⟨w4, hw4⟩ : ∃ x, x = wc := ⟨_, rfl⟩; subst hw4
        have HIT4 := Lib.hid (HIT3.out.later hb4 y1)
        have HC4 := Lib.hid (HC3.out.later hb4)
        have HI4 := Lib.hid (HI3.out.later hb4 y4)
        obtain ⟨f0, f1, f2, f3, f4, f5⟩ := tcells HIT4.out
        obtain ⟨a0, a1, a2⟩ := wcells (HIA3.out.later hb4 y2)
        simp only at f0 f1 f2 f3 f4 f5
        have HIU := Lib.hid IU
        have zu := IU.lt (by omega)
        have z4 : w3.heap.size ≤ w4.heap.size := hb4.size
        have HBW := Lib.hid (HB2.out.trans ((HB3.out.mono z2).trans (hb4.mono (by omega))))
        have yt : w.heap.size + 1 < w4.heap.size := by omega
        have yb : b < w4.heap.size := by omega
        have yA : A < w4.heap.size := by omega
        have nUb : ¬ w3.heap.size = b := by omega
        have nbU : ¬ b = w3.heap.size := by omega
        have HAU : Hid (a.block ≠ w3.heap.size) := by show a.block ≠ w3.heap.size; have hbl : (a.add (pc * 6)).block = a.block := (by unfold Addr.add; split <;> rfl); omega
        clear hb4 IU HIS3 HIA3 HIT3 HC3 HI3 HB3 HB2
        by_cases k5 : x.kind = 5
        ·have hR2 := HR2.out
         rw [if_pos k5] at hR2
         subst hR2
         have t5 := vbeq_yes k5
         clear k5
         as_aux_lemma =>
          go_wp2_with fail
          have CO := Lib.hid (show ∀ wd dr os, Calls Tryd.prog 35 #[.int .i64 0] (Go.Sort.grow (redrawn wd dr) os) fun e w' => e = .returned (.agg #[.int .i64 0, .int .i64 0]) ∧ ∃ p : Regrown, w' = Go.Sort.grow (redrawn wd p.d) p.os from fun wd dr os => Calls.regrown_of (One_any 0 _))
          have CN := Lib.hid (show ∀ wd dr os, Calls Tryd.prog 67 #[.agg #[.int .i64 0, .int .i64 0]] (Go.Sort.grow (redrawn wd dr) os) fun e w' => e = .returned (.agg #[.int .i64 1, .int .i64 0, .int .i64 0]) ∧ ∃ p : Regrown, w' = Go.Sort.grow (redrawn wd p.d) p.os from fun wd dr os => Calls.regrown_of (VNumber_any 0 0 _))
          have q1 := cell_regrown f1
          refine wp_below_tail 6 (by kernel_rfl) (by kernel_rfl) ?_
          repeat (quiet_step (first | exact CO.out _ _ _ | exact CN.out _ _ _))
          refine wpQuiet_nil ?_
          intro wq hwq
          have hbq : Below w4.heap.size w4 wq := by
           obtain ⟨p, hp⟩ := hwq
           rw [hp]; exact below_regrown _ _ _
          clear hwq q1
          have IQ := HIU.out.later hbq zu
          have d0 := IQ.cell (d * 3) (by omega); have d1' := IQ.cell (d * 3 + 1) (by omega); have d2 := IQ.cell (d * 3 + 2) (by omega)
          have g0 := IQ.free (d * 3) (by omega); have g1' := IQ.free (d * 3 + 1) (by omega); have g2' := IQ.free (d * 3 + 2) (by omega)
          have HIQ := Lib.hid IQ
          have HBQ := Lib.hid hbq
          have zqU : w3.heap.size < wq.heap.size := IQ.lt (by omega)
          clear IQ hbq CO CN
          go_upto_region 33 with fail
          generalize hW : World.setCell (World.setCell (World.setCell wq _ _) _ _) _ _ = w5
          have IU5 : P.Img w5 w3.heap.size 81 (simg wcell (s.setReg d (.num (bone 0)))) := by
           rw [← hW]
           have K := (((HIQ.out.set (j := d * 3) (by omega) (wcell (.num (bone 0)) 0)).set (j := d * 3 + 1) (by omega) (wcell (.num (bone 0)) 1)).set (j := d * 3 + 2) (by omega) (wcell (.num (bone 0)) 2)).congr (simg_setreg dN (.num (bone 0)))
           exact K
          have B5 : Below w3.heap.size w4 w5 := hW ▸ (((HBQ.out.mono z4).setCell (by simp) _).setCell (by simp) _).setCell (by simp) _
          have HIU5 := Lib.hid IU5
          have hC5 : Cells w5 a S n := (HC4.out.later HBQ.out).but (hW ▸ (((But.refl w3.heap.size wq).setCell (.inl rfl) _).setCell (.inl rfl) _).setCell (.inl rfl) _) HAU.out
          have hI5 : P.Img w5 b 5 (wimg (.slice (some a) n cap) k) := HI4.out.later B5 (by omega)
          have g1 : w5.cell? ⟨w.heap.size + 1, 1, none⟩ = some (.int .i64 d) := (B5.cell (p := ⟨w.heap.size + 1, 1, none⟩) y1).trans f1
          have HC5 := Lib.hid hC5
          have HI5 := Lib.hid hI5
          have HBW5 := Lib.hid (HBW.out.trans (B5.mono (by omega)))
          have zu5 := IU5.lt (by omega)
          have y15 : w.heap.size + 1 < w5.heap.size := by omega
          clear hW IU5 B5 hC5 hI5 d0 d1' d2 g0 g1' g2' f0 f1 f2 f3 f4 f5 a0 a1 a2 HIQ HBQ HIU HI4 HC4 HBW
          go_wp2_with (first | (with_reducible refine vl_load (by simp [go_sem]; done) 114 (.tmp 21) rfl w3.heap.size 0 (by simp [go_sem]; done) (scells wcell (s.setReg d (.num (bone 0)))) _ (Img.scells HIU5.out) Tryd.underlying114 rfl (size_state _) ?_))
          rw [show ((pc : Int) + 1) = ((pc + 1 : Nat) : Int) by push_cast; rfl]
          refine (HIH.out (s.setReg d (.num (bone 0))) (pc + 1) k w5 (HS.out.setReg _ (WOk.num (bone_ok in64_0))) HN1.out (by omega) hk0 hk1 HKE.out HC5.out HI5.out).mono ?_
          intro e w6 hp
          obtain ⟨v, rfl, hE, hI6, hB6⟩ := hp
          by_cases he : (vwalk S f (s.setReg d (.num (bone 0))) ((pc + 1 : Nat) : Int) k).1.1 = 0
          ·obtain rfl := hE.nil0 he
           have HE0 := Lib.hid he
           have g1' := hB6.cell g1 (show w.heap.size + 1 ≠ b by omega)
           have HI6 := Lib.hid hI6
           have HB6 := Lib.hid hB6
           have IU6 := hB6.img HIU5.out (by omega) nUb
           have HIU6 := Lib.hid IU6
           have HC6 := Lib.hid (HC5.out.but hB6 hab)
           have zu6 := IU6.lt (by omega)
           have z6 : w5.heap.size ≤ w6.heap.size := hB6.size
           have y16 : w.heap.size + 1 < w6.heap.size := by omega
           have yb6 : b < w6.heap.size := by omega
           clear he hE hI6 hB6 IU6 g1 HIU5 HC5 HI5
           go_wp2_with fail
           have CO := Lib.hid (show ∀ wd dr os, Calls Tryd.prog 35 #[.int .i64 0] (Go.Sort.grow (redrawn wd dr) os) fun e w' => e = .returned (.agg #[.int .i64 0, .int .i64 0]) ∧ ∃ p : Regrown, w' = Go.Sort.grow (redrawn wd p.d) p.os from fun wd dr os => Calls.regrown_of (One_any 0 _))
           have q1 := cell_regrown g1'
           refine wp_below_tail 6 (by kernel_rfl) (by kernel_rfl) ?_
           repeat (quiet_step (exact CO.out _ _ _))
           refine wpQuiet_nil ?_
           intro wz hwz
           have hbz : Below w6.heap.size w6 wz := by
            obtain ⟨p, hp⟩ := hwz
            rw [hp]; exact below_regrown _ _ _
           clear hwz q1
           have IZ := HIU6.out.later hbz zu6
           have d0 := IZ.cell (d * 3) (by omega); have d1' := IZ.cell (d * 3 + 1) (by omega); have d2 := IZ.cell (d * 3 + 2) (by omega)
           have g0 := IZ.free (d * 3) (by omega); have h1' := IZ.free (d * 3 + 1) (by omega); have h2' := IZ.free (d * 3 + 2) (by omega)
           have HIZ := Lib.hid IZ
           have HBZ := Lib.hid hbz
           clear IZ hbz CO
           go_upto_region 37 with fail
           generalize hW : World.setCell (World.setCell (World.setCell wz _ _) _ _) _ _ = w7
           have IU7 : P.Img w7 w3.heap.size 81 (simg wcell (s.setReg d ⟨4, bone 0⟩)) := by
            rw [← hW]
            have K := (((HIZ.out.set (j := d * 3) (by omega) (wcell ⟨4, bone 0⟩ 0)).set (j := d * 3 + 1) (by omega) (wcell ⟨4, bone 0⟩ 1)).set (j := d * 3 + 2) (by omega) (wcell ⟨4, bone 0⟩ 2)).congr (simg_setreg dN ⟨4, bone 0⟩)
            rw [show (s.setReg d ⟨4, bone 0⟩) = { (s.setReg d (.num (bone 0))) with regs := upd (s.setReg d (.num (bone 0))).regs d ⟨4, bone 0⟩ } from by unfold VS.setReg; simp only [Int.toNat_natCast, vupd_upd]]
            exact K
           have BU : But w3.heap.size wz w7 := hW ▸ (((But.refl w3.heap.size wz).setCell (.inl rfl) _).setCell (.inl rfl) _).setCell (.inl rfl) _
           have hC7 : Cells w7 a S n := (HC6.out.later HBZ.out).but BU HAU.out
           have hI7 : P.Img w7 b 5 (wimg (.slice (some a) n cap) (vwalk S f (s.setReg d (.num (bone 0))) ((pc + 1 : Nat) : Int) k).2) := BU.img (HI6.out.later HBZ.out yb6) (by omega) nbU
           have HIU7 := Lib.hid IU7
           have HC7 := Lib.hid hC7
           have HI7 := Lib.hid hI7
           have HBB := Lib.hid (but_new (((But.of HBW5.out).trans HB6.out).trans (But.of HBZ.out)) BU (by omega))
           clear hW IU7 BU hC7 hI7 d0 d1' d2 g0 h1' h2' HIZ HBZ HIU6 HC6 g1'
           go_wp2_with (first | (with_reducible refine vl_load (by simp [go_sem]; done) 114 (.tmp 21) rfl w3.heap.size 0 (by simp [go_sem]; done) (scells wcell (s.setReg d ⟨4, bone 0⟩)) _ (Img.scells HIU7.out) Tryd.underlying114 rfl (size_state _) ?_))
           rw [show ((pc : Int) + 1 + (o : Int)) = ((pc + 1 + o : Nat) : Int) by push_cast; rfl]
           have HKP := Lib.hid (vwalk_keeps HP.out f (s.setReg d (.num (bone 0))) ((pc + 1 : Nat) : Int) k (HS.out.setReg _ (WOk.num (bone_ok in64_0))) (by omega) (by have := HN1.out; exact_mod_cast this) (by push_cast; omega))
           have HL2 := Lib.hid (vwalk_looks f (s.setReg d (.num (bone 0))) ((pc + 1 : Nat) : Int) k hk1 HE0.out)
           refine (HIH.out (s.setReg d ⟨4, bone 0⟩) (pc + 1 + o) (vwalk S f (s.setReg d (.num (bone 0))) ((pc + 1 : Nat) : Int) k).2 w7 (HS.out.setReg _ ⟨by simp, bone_ok in64_0⟩) HN2.out (by omega) (Int.le_trans hk0 HKP.out.looks) HL2.out (HKP.out.ok HKE.out) HC7.out HI7.out).mono ?_
           intro e w8 hp
           obtain ⟨v, rfl, hE, hI8, hB8⟩ := hp
           have HE := Lib.hid hE
           have HI8 := Lib.hid hI8
           have HB8 := Lib.hid hB8
           clear hE hI8 hB8
           go_wp2_with fail
           go_ret
           rw [ways_second HE0.out]
           exact ⟨_, rfl, HE.out, HI8.out, HBB.out.trans HB8.out⟩
          ·obtain ⟨ty, xv, rfl⟩ := hE.noIface he
           have HE0 := Lib.hid he
           have HE := Lib.hid hE
           have HI6 := Lib.hid hI6
           have HB6 := Lib.hid hB6
           clear he hE hI6 hB6
           go_wp2_with fail
           go_ret
           rw [ways_first HE0.out]
           exact ⟨_, rfl, HE.out, HI6.out, (But.of HBW5.out).trans HB6.out⟩
        ·have hR2 := HR2.out
         rw [if_neg k5] at hR2
         subst hR2
         have t5 := vbeq_no k5
         clear k5
         as_aux_lemma =>
          go_wp2_with (first | (with_reducible refine vl_load (by simp [go_sem]; done) 114 (.tmp 21) rfl w3.heap.size 0 (by simp [go_sem]; done) (scells wcell s) _ (Img.scells HIU.out) Tryd.underlying114 rfl (size_state _) ?_))
          rw [show ((pc : Int) + 1 + (o : Int)) = ((pc + 1 + o : Nat) : Int) by push_cast; rfl]
          refine (HIH.out s (pc + 1 + o) k w4 HS.out HN2.out (by omega) hk0 hk1 HKE.out HC4.out HI4.out).mono ?_
          intro e w6 hp
          obtain ⟨v, rfl, hE, hI6, hB6⟩ := hp
          have HE := Lib.hid hE
          have HI6 := Lib.hid hI6
          have HB6 := Lib.hid hB6
          clear hE hI6 hB6
          go_wp2_with fail
          go_ret
          rw [ways_one (fun h0 => (vwalk_keeps HP.out f s _ k HS.out (by omega) (by have := HN2.out; exact_mod_cast this) (by push_cast; omega)).place h0)]
          exact ⟨_, rfl, HE.out, HI6.out, (But.of HBW.out).trans HB6.out⟩
end Go.Proofs.YtfpoicdfkjbknaaDoor.W
