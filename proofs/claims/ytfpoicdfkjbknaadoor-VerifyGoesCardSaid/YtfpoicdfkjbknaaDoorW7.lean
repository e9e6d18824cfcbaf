/- The walk of the reference's both (the ways of a step that asks), by contract. Conditions: the program's cells are known, its check gives nothing; what is known lies in a block of 81 cells; the variable all holds the least and the greatest number. -/
import Derived.Test.YtfpoicdfkjbknaaDoorW6
import Derived.Test.YtfpoicdfkjbknaaDoorW2
import Derived.Test.YtfpoicdfkjbknaaDoorOrd
import Derived.Test.YtfpoicdfkjbknaaDoorWalkRefN
import Derived.Deep.CutBlock
import Derived.Deep.DeepCutAuto
import Derived.Deep.LoopGhost
import Derived.Deep.Light
import Derived.BigRegion
namespace Go.Proofs.YtfpoicdfkjbknaaDoor.W
open Go.RowKit Go.Proofs.YtfpoicdfkjbknaaDoor.P
set_option linter.unusedSimpArgs false
set_option linter.unusedVariables false

theorem rupd_upd {α : Type} (f : Nat → α) (i : Nat) (u v : α) : upd (upd f i u) i v = upd f i v := by
 funext j; by_cases h : j = i
 ·subst h; rw [upd_same, upd_same]
 ·rw [upd_other h, upd_other h, upd_other h]
theorem row_lt {v : Value} {w : World} {b : Nat} {code : Value} {k : Wk} (h : LookIs w b code v k) {c : Nat} (hc : w.heap.size ≤ c) : v.ownBlock ≠ some c := fun e => by have := (h.row e).2; omega
theorem timg_at {w : World} {b : Nat} {c d sr : Int} {r : Bool} {o nn : Int} {ty : TypeId} (h : w.heap[b]? = some (.cells #[.int .i64 c, .int .i64 d, .int .i64 sr, .bool r, .int .i64 o, .int .i64 nn] ty (0, 0))) : P.Img w b 6 (timg ⟨c, d, sr, r, o, nn⟩) := by
 refine Img.of_cells h (by rfl) fun j hj => ?_
 rcases j with _ | _ | _ | _ | _ | _ | j
 ·rfl
 ·rfl
 ·rfl
 ·rfl
 ·rfl
 ·rfl
 ·omega
theorem rwimg_at {w : World} {b : Nat} {x : Wh} {ty : TypeId} (h : w.heap[b]? = some (.cells #[.int .u8 (letter x.kind), .int .i64 x.b.lo, .int .i64 x.b.hi] ty (0, 0))) : P.Img w b 3 (rwcell x) := by
 refine Img.of_cells h (by rfl) fun j hj => ?_
 rcases j with _ | _ | _ | j
 ·rfl
 ·rfl
 ·rfl
 ·omega

set_option maxRecDepth 100000 in
set_option maxHeartbeats 100000000 in
theorem RBoth_any (S : Nat → Step) (a : Addr) (n cap b f : Nat) (hcap : n ≤ cap) (hn2 : n ≤ 200) (hab : a.block < b) (hgb : 4 < b) (IH : GoesC S a n cap b f) (HPS : ∀ j, j < n → StepOk n j (S j)) (s : VS) (pc : Nat) (k : Wk) (v : Value) (w : World) (hs : VSOk s) (hpc : pc < n) (hf : n ≤ pc + 1 + f) (hk0 : 0 ≤ k.looks) (hk1 : k.looks ≤ 4000) (hkl : (k.ends.length : Int) ≤ k.looks) (hke : ∀ e ∈ k.ends, e.Ok)
  (hg : AllAt w) (hc : Cells w a S n) (hL : LookIs w b (.slice (some a) n cap) v k) (ht : StepOk n pc (S pc)) (hw : (S pc).wrong = 0) (hca : 15 ≤ (S pc).code ∧ (S pc).code ≤ 24) :
  Calls Tryd.prog 55 #[.pointer (some ⟨b, 0, none⟩), .agg (scells rwcell s).toArray, .int .i64 pc, .agg #[.int .u8 (letter (s.second (S pc)).kind), .int .i64 (s.second (S pc)).b.lo, .int .i64 (s.second (S pc)).b.hi]] w
   (LPost b (.slice (some a) n cap) v w (waysOf (vwalk S f) pc k (s.asks (S pc) pc))) := by
 have HW0 := Lib.hid (Below.refl w.heap.size w)
 have hlt := hL.lt
 have c0 : w.cell? ⟨b, 0, none⟩ = some (.slice (some a) n cap) := hL.img.cell 0 (by omega)
 obtain ⟨e0, e1, e2, e3, e4, e5⟩ := hc pc hpc
 have l0 := block_lt_of_cell e0
 have hin : In64 (S pc).num := ht.2.2
 generalize hT : S pc = t at *
 obtain ⟨c, d, sr, r, o, nn⟩ := t
 obtain ⟨g1, g2, g3, g4⟩ := wrong_ok hw
 simp only at g1 g2 g3 g4 hca e0 e1 e2 e3 e4 e5 hin
 obtain ⟨d, rfl⟩ := Int.eq_ofNat_of_zero_le g2.1
 obtain ⟨sr, rfl⟩ := Int.eq_ofNat_of_zero_le g2.2.2.1
 have dN : d < 11 := by omega
 have sN : sr < 11 := by omega
 have d1 : (d : Int) < 11 := by omega
 have s1 : (sr : Int) < 11 := by omega
 have d27 : (d : Int) < 27 := by omega
 have s27 : (sr : Int) < 27 := by omega
 have pc1 : (pc : Int) < n := by omega
 have pc2 : (pc : Int) < 200 := by omega
 have pc0 : (0 : Int) ≤ pc := by omega
 have hsec : WOk (s.second ⟨c, d, sr, r, o, nn⟩) := hs.second hin
 have hreg : WOk (s.regs d) := hs.1 d
 have HL := Lib.hid hL
 have HIH := Lib.hid IH
 have HP := Lib.hid HPS
 have HKE := Lib.hid hke
 have HS := Lib.hid hs
 have HC := Lib.hid hc
 have HG := Lib.hid hg
 have HTT := Lib.hid ht
 obtain ⟨R, hR⟩ : ∃ R, s.asks ⟨c, d, sr, r, o, nn⟩ pc = R := ⟨_, rfl⟩
 rw [hR]
 have hx0 := Lib.hid (show s.regs d = s.regs d from rfl)
 obtain ⟨x, hX⟩ : ∃ x, s.regs d = x := ⟨_, rfl⟩
 obtain ⟨y, hY⟩ : ∃ y, s.second ⟨c, d, sr, r, o, nn⟩ = y := ⟨_, rfl⟩
 rw [hY]
 rw [hX] at hreg
 rw [hY] at hsec
 have hR' : s.asks ⟨c, d, sr, r, o, nn⟩ pc = R := hR
 unfold VS.asks at hR
 simp only [Int.toNat_natCast] at hR
 rw [hX, hY] at hR
 have HX := Lib.hid hX
 have HY := Lib.hid hY
 clear hL IH hs hc hg ht hw hT HPS hke hX hY hx0 hR'
 have hl1 : b < w.heap.size + 1 := by omega
 have hl2 : b < w.heap.size + 1 + 1 := by omega
 have hl3 : b < w.heap.size + 1 + 1 + 1 := by omega
 have la1 : (a.add (pc * 6)).block < w.heap.size + 1 := by omega
 have la2 : (a.add (pc * 6)).block < w.heap.size + 1 + 1 := by omega
 have la3 : (a.add (pc * 6)).block < w.heap.size + 1 + 1 + 1 := by omega
 go_enter Tryd.func55, Tryd.ntmps55
 go_upto_region 2 with fail
 clear hl1 hl2 hl3 la1 la2 la3
 generalize hW : World.alloc (World.alloc (World.alloc (World.alloc w _) _) _) _ = wd
 have IS : P.Img wd w.heap.size 81 (simg rwcell s) := hW ▸ ((Img.snew.alloc _).alloc _).alloc _
 have IY : P.Img wd (w.heap.size + 1) 3 (rwcell y) := hW ▸ ((rwimg_at (by simpa using heap_alloc_new (World.alloc w _) _)).alloc _).alloc _
 have IF : P.Img wd (w.heap.size + 1 + 1) 2 (fun _ => .int .i64 0) := hW ▸ (Img.alloc (Img.zero2 (by simpa using heap_alloc_new (World.alloc (World.alloc w _) _) _)) _)
 have IT : P.Img wd (w.heap.size + 1 + 1 + 1) 6 (timg ⟨c, d, sr, r, o, nn⟩) := hW ▸ timg_at (by simpa using heap_alloc_new (World.alloc (World.alloc (World.alloc w _) _) _) _)
 have hbd : Below w.heap.size w wd := hW ▸ (((Below.refl _ _).alloc (Nat.le_refl _) _).alloc (by simp) _ |>.alloc (by simp; omega) _).alloc (by simp; omega) _
 clear hW
 obtain ⟨x0, x1, x2⟩ := rrcells IS dN
 obtain ⟨f0, f1, f2, f3, f4, f5⟩ := tcells IT
 simp only at f0 f1 f2 f3 f4 f5
 rw [HX.out] at x0 x1 x2
 have zt := IT.lt (by omega)
 have HIS := Lib.hid IS
 have HIY := Lib.hid IY
 have HIF := Lib.hid IF
 have HIT := Lib.hid IT
 have HBD := Lib.hid hbd
 clear IS IY IF IT hbd c0 e0 e1 e2 e3 e4 e5 l0
 go_upto_region 3 with fail
 generalize hW : World.alloc wd _ = w2
 have hb2 : Below wd.heap.size wd w2 := hW ▸ (Below.refl _ _).alloc (Nat.le_refl _) _
 have IA : P.Img w2 wd.heap.size 3 (rwcell x) := hW ▸ rwimg_at (heap_alloc_new wd _)
 clear hW
 obtain ⟨A, hA⟩ : ∃ A, A = wd.heap.size := ⟨_, rfl⟩
 rw [← hA] at IA hb2 ⊢
 have zt' : w.heap.size + 1 + 1 + 1 < A := by omega
 have HIS2 := Lib.hid (HIS.out.later hb2 (by omega))
 have HIY2 := Lib.hid (HIY.out.later hb2 (by omega))
 have HIF2 := Lib.hid (HIF.out.later hb2 (by omega))
 have HIT2 := Lib.hid (HIT.out.later hb2 (by omega))
 have HB2 := Lib.hid (HBD.out.trans (hb2.mono (by omega)))
 have HIA2 := Lib.hid IA
 have zA : A < w2.heap.size := IA.lt (by omega)
 have HL2 := Lib.hid ((Led.refl HL.out).later HB2.out)
 have HC00 := Lib.hid HC.out
 have HG00 := Lib.hid HG.out
 clear hb2 IA x0 x1 x2 f0 f1 f2 f3 f4 f5 HIS HIY HIF HIT HBD hA zt
 obtain ⟨a0, a1, a2⟩ := rwcells HIA2.out
 obtain ⟨y0, y1, y2⟩ := rwcells HIY2.out
 obtain ⟨f0, f1, f2, f3, f4, f5⟩ := tcells HIT2.out
 simp only at f0 f1 f2 f3 f4 f5
 have zF : w.heap.size + 1 + 1 < w2.heap.size := by omega
 have r0 : w2.cell? ⟨w.heap.size + 1 + 1, 0, none⟩ = some (.int .i64 0) := HIF2.out.cell 0 (by omega)
 have r1 : w2.cell? ⟨w.heap.size + 1 + 1, 1, none⟩ = some (.int .i64 0) := HIF2.out.cell 1 (by omega)
 have t0 := HIF2.out.free 0 (by omega)
 have t1 := HIF2.out.free 1 (by omega)
 have okx : KOk x.kind := hreg.1
 have oky : KOk y.kind := hsec.1
 by_cases h0 : x.kind = 0 ∨ y.kind = 0
 ·rw [if_pos h0] at hR
  subst hR
  as_aux_lemma =>
   have hn : (letter x.kind == 0) = true ∨ ((letter x.kind == 0) = false ∧ (letter y.kind == 0) = true) := by
    by_cases e : x.kind = 0
    ·exact .inl (rbeq_yes ((letter_0 okx).2 e))
    ·exact .inr ⟨rbeq_no (fun h => e ((letter_0 okx).1 h)), rbeq_yes ((letter_0 oky).2 (by omega))⟩
   clear h0 okx oky hreg hsec
   rcases hn with q1 | ⟨q1, q2⟩
   all_goals
    go_wp2_with fail
    refine bodyPost_ret (v := .agg #[.int .i64 8, .int .i64 pc]) ?_ rfl ⟨v, rfl, (HL2.out.but (c := w.heap.size + 1 + 1) ?_ (by omega) (by omega) (row_lt HL.out (by omega)))⟩
    ·simp [results, Tryd.results55, go_sem, *]
    ·exact ((But.refl (w.heap.size + 1 + 1) w2).setCell (.inl rfl) _).setCell (.inl rfl) _
 rw [if_neg h0] at hR
 by_cases h1 : x.kind = 1 ∧ y.kind = 1
 ·rw [if_pos h1] at hR
  as_aux_lemma =>
   have hxo := hreg.2
   have hyo := hsec.2
   obtain ⟨xk, ⟨xl, xh⟩⟩ := x
   obtain ⟨yk, ⟨yl, yh⟩⟩ := y
   obtain ⟨e1, e2⟩ := h1
   simp only at e1 e2 hxo hyo
   subst e1
   subst e2
   replace a0 : w2.cell? ⟨A, 0, none⟩ = some (.int .u8 110) := a0
   replace y0 : w2.cell? ⟨w.heap.size + 1, 0, none⟩ = some (.int .u8 110) := y0
   simp only at a1 a2 y1 y2
   obtain ⟨ol, oh⟩ := HTT.out.2.1 (.inr (show 15 ≤ c ∧ c ≤ 24 from by omega))
   simp only at ol oh
   obtain ⟨o, rfl⟩ := Int.eq_ofNat_of_zero_le ol
   have s1 : IntKind.i64.wrap ((pc : Int) + 1) = (pc : Int) + 1 := IntWalk.i64_in _ (by omega)
   have s2 : IntKind.i64.wrap ((pc : Int) + 1 + (o : Int)) = (pc : Int) + 1 + (o : Int) := IntWalk.i64_in _ (by omega)
   have HN1 : Hid (pc + 1 < n) := by show pc + 1 < n; omega
   have HN2 : Hid (pc + 1 + o < n) := by show pc + 1 + o < n; omega
   have o200 : (o : Int) < 200 := by omega
   have HOX := Lib.hid hxo
   have HOY := Lib.hid hyo
   have HAS : Hid (P.asks c = true) := by show P.asks c = true; simp [P.asks]; omega
   obtain ⟨X, hX⟩ : ∃ X, s.way ⟨c, d, sr, r, o, nn⟩ (opp c) ((pc : Int) + 1) = X := ⟨_, rfl⟩
   obtain ⟨Y, hY⟩ : ∃ Y, s.way ⟨c, d, sr, r, o, nn⟩ c ((pc : Int) + 1 + o) = Y := ⟨_, rfl⟩
   have hR2 : VRes.go X Y = R := by rw [← hX, ← hY]; exact hR
   subst hR2
   obtain ⟨K, hK⟩ : ∃ K : Nat → VR, K = fun j => if j = 0 then ((0, -1), k) else if j = 1 then wayOf (vwalk S f) X k else wayOf (vwalk S f) Y (wayOf (vwalk S f) X k).2 := ⟨_, rfl⟩
   have hK0 : K 0 = ((0, -1), k) := by rw [hK]; rfl
   have hK1 : K 1 = wayOf (vwalk S f) X (K 0).2 := by rw [hK]; rfl
   have hK2 : K 2 = wayOf (vwalk S f) Y (K 1).2 := by rw [hK]; rfl
   have hKR : ∀ j, j < 2 → (K j).1.1 = 0 → (K (j + 1)).1.1 ≠ 0 → waysOf (vwalk S f) pc k (.go X Y) = K (j + 1) := by
    intro j hj h0 h1
    show thenOf (wayOf (vwalk S f) X k) (wayOf (vwalk S f) Y) = K (j + 1)
    have e1 : K 1 = wayOf (vwalk S f) X k := by rw [hK1, hK0]
    rw [← e1]
    unfold thenOf
    rcases j with _ | _ | j
    ·rw [if_pos h1]
    ·rw [if_neg (by simpa using h0), hK2]
    ·omega
   have hKE : (K 1).1.1 = 0 → waysOf (vwalk S f) pc k (.go X Y) = K 2 := by
    intro h0
    show thenOf (wayOf (vwalk S f) X k) (wayOf (vwalk S f) Y) = K 2
    have e1 : K 1 = wayOf (vwalk S f) X k := by rw [hK1, hK0]
    rw [← e1]
    unfold thenOf
    rw [if_neg (by simpa using h0), hK2]
   have HK0 := Lib.hid hK0; have HK1 := Lib.hid hK1; have HK2 := Lib.hid hK2; have HKR := Lib.hid hKR; have HKE2 := Lib.hid hKE
   have HX2 := Lib.hid hX
   have HY2 := Lib.hid hY
   clear hR h0 hX hY hK hK0 hK1 hK2 hKR hKE hxo hyo ol oh hsec hreg hca okx oky
   go_upto_region 6 with fail
   have k0 := cell_regrown f0
   have CO := Lib.hid (show ∀ wd dr os, Calls Tryd.prog 77 #[.int .i64 c] (Go.Sort.grow (redrawn wd dr) os) fun e w' => e = .returned (.int .i64 (opp c)) ∧ ∃ p : Regrown, w' = Go.Sort.grow (redrawn wd p.d) p.os from fun wd dr os => Calls.regrown_of (RefOpposite_any c HAS.out _))
   refine wp_below_ord [0, 1, 2, 3, 4, 7] 5 [6] (by kernel_rfl) (by kernel_rfl) ?_
   repeat (quiet_step (exact CO.out _ _ _))
   refine wpQuiet_nil ?_
   intro wq hwq
   have hbq : Below w2.heap.size w2 wq := by
    obtain ⟨p, hp⟩ := hwq
    rw [hp]; exact below_regrown _ _ _
   clear hwq k0 CO
   have HISq := Lib.hid (HIS2.out.later hbq (by omega))
   have HIYq := Lib.hid (HIY2.out.later hbq (by omega))
   have HIFq := Lib.hid (HIF2.out.later hbq (by omega))
   have HITq := Lib.hid (HIT2.out.later hbq (by omega))
   have HIAq := Lib.hid (HIA2.out.later hbq (by omega))
   have HLq := Lib.hid (HL2.out.later hbq)
   have zq : w2.heap.size ≤ wq.heap.size := hbq.size
   clear hbq f0 f1 f2 f3 f4 f5 a0 a1 a2 y0 y1 y2 r0 r1 t0 t1
   go_wp2_with fail
   refine NoPanic.normal ?_
   generalize hW : World.alloc wq _ = w3
   obtain ⟨Q, hQ⟩ : ∃ Q, Q = wq.heap.size := ⟨_, rfl⟩
   have IQ : P.Img w3 wq.heap.size 2 (fun j => if j = 0 then .int .i64 (opp c) else .int .i64 c) := by
    rw [← hW]
    refine Img.of_cells (heap_alloc_new wq _) (by rfl) fun j hj => ?_
    rcases j with _ | _ | j
    ·rfl
    ·rfl
    ·omega
   have hb3 : Below wq.heap.size wq w3 := hW ▸ (Below.refl _ _).alloc (Nat.le_refl _) _
   clear hW
   rw [← hQ] at IQ hb3 ⊢
   have HIS3 := Lib.hid (HISq.out.later hb3 (by omega))
   have HIY3 := Lib.hid (HIYq.out.later hb3 (by omega))
   have HIF3 := Lib.hid (HIFq.out.later hb3 (by omega))
   have HIT3 := Lib.hid (HITq.out.later hb3 (by omega))
   have HIA3 := Lib.hid (HIAq.out.later hb3 (by omega))
   have HIQ3 := Lib.hid IQ
   have HL3 := Lib.hid (HLq.out.later (hQ ▸ hb3))
   have zQ : Q < w3.heap.size := IQ.lt (by omega)
   have zAQ : A < Q := by omega
   clear hb3 IQ HISq HIYq HIFq HITq HIAq HLq hQ zq
   have nr3 := Lib.hid (show ∀ c', w.heap.size ≤ c' → c' < w3.heap.size → v.ownBlock ≠ some c' from fun c' h1 h2 => row_lt HL.out h1)
   go_wp2_with fail
   go_loopw [57] (fun i wr => ∃ (j : Nat) (k' : Wk) (v' : Value), j ≤ 2 ∧ i = .int .i64 j ∧ (j = 2 → (K 1).1.1 = 0) ∧ (K j).1.1 = 0 ∧ (K j).1.2 = -1 ∧ k' = (K j).2 ∧ 0 ≤ k'.looks ∧ k'.looks ≤ 4000 ∧ (k'.ends.length : Int) ≤ k'.looks ∧ (∀ e ∈ k'.ends, e.Ok) ∧ (∀ c', w.heap.size ≤ c' → c' < w3.heap.size → v'.ownBlock ≠ some c') ∧ Led b (.slice (some a) n cap) v w3 v' k' wr) (fun i _ => 2 - (intOf i).toNat)
   case atStart => exact ⟨0, k, v, by omega, rfl, fun h => by omega, by rw [HK0.out], by rw [HK0.out], by rw [HK0.out], hk0, hk1, hkl, HKE.out, nr3.out, Led.refl HL3.out.look⟩
   case round =>
    obtain ⟨j, k', v', hj, rfl, hj20, hj0, hjp, hk', hk0', hk1', hkl', hke', hnr, hLr⟩ := hrel
    have HJ20 := Lib.hid hj20; have HJ0 := Lib.hid hj0; have HJP := Lib.hid hjp; have HKK := Lib.hid hk'; have HKE' := Lib.hid hke'; have HNR := Lib.hid hnr
    have HISr := Lib.hid (hLr.img HIS3.out (by omega) (by omega) (nr3.out _ (by omega) (by omega)))
    have HIYr := Lib.hid (hLr.img HIY3.out (by omega) (by omega) (nr3.out _ (by omega) (by omega)))
    have HIFr := Lib.hid (hLr.img HIF3.out (by omega) (by omega) (nr3.out _ (by omega) (by omega)))
    have HITr := Lib.hid (hLr.img HIT3.out (by omega) (by omega) (nr3.out _ (by omega) (by omega)))
    have HIAr := Lib.hid (hLr.img HIA3.out (by omega) (by omega) (nr3.out _ (by omega) (by omega)))
    have HIQr := Lib.hid (hLr.img HIQ3.out (by omega) (by omega) (nr3.out _ (by omega) (by omega)))
    have HLr := Lib.hid hLr
    obtain ⟨f0, f1, f2, f3, f4, f5⟩ := tcells HITr.out
    obtain ⟨a0, a1, a2⟩ := rwcells HIAr.out
    obtain ⟨y0, y1, y2⟩ := rwcells HIYr.out
    simp only at f0 f1 f2 f3 f4 f5 a0 a1 a2 y0 y1 y2
    have zr : w3.heap.size ≤ wr.heap.size := hLr.size
    have r0 : wr.cell? ⟨w.heap.size + 1 + 1, 0, none⟩ = some (.int .i64 0) := HIFr.out.cell 0 (by omega)
    have r1 : wr.cell? ⟨w.heap.size + 1 + 1, 1, none⟩ = some (.int .i64 0) := HIFr.out.cell 1 (by omega)
    have t0 := HIFr.out.free 0 (by omega)
    have t1 := HIFr.out.free 1 (by omega)
    clear hj20 hj0 hjp hk' hke' hnr hLr
    by_cases hj2 : j < 2
    ·have hj3 : (j : Int) < 2 := by omega
     have hj01 : j = 0 ∨ j = 1 := by omega
     clear r0 r1 t0 t1
     rcases hj01 with rfl | rfl
     ·as_aux_lemma =>
       have ci : wr.cell? ⟨Q, 0, none⟩ = some (.int .i64 (opp c)) := HIQr.out.cell 0 (by omega)
       have CN := Lib.hid (fun w => RefNarrow_any (opp c) xl xh yl yh HOX.out.1 HOX.out.2.1 HOY.out.1 HOY.out.2.1 HOX.out.2.2 HOY.out.2.2 w)
       obtain ⟨Nr, hNr⟩ : ∃ Nr, bnarrow (opp c) ⟨xl, xh⟩ ⟨yl, yh⟩ = Nr := ⟨_, rfl⟩
       rw [hNr] at CN
       have HNr := Lib.hid hNr
       clear hNr
       obtain ⟨⟨pl, ph⟩, ⟨ql, qh⟩, ok⟩ := Nr
       simp only at CN
       go_wp2_with fail
       refine (CN.out _).mono ?_
       rintro e w4 ⟨rfl, hb4⟩
       have HIS4 := Lib.hid (HISr.out.later hb4 (by omega))
       have HIY4 := Lib.hid (HIYr.out.later hb4 (by omega))
       have HIF4 := Lib.hid (HIFr.out.later hb4 (by omega))
       have HIT4 := Lib.hid (HITr.out.later hb4 (by omega))
       have HIA4 := Lib.hid (HIAr.out.later hb4 (by omega))
       have HIQ4 := Lib.hid (HIQr.out.later hb4 (by omega))
       have HL4 := Lib.hid (HLr.out.later hb4)
       have z4 : wr.heap.size ≤ w4.heap.size := hb4.size
       obtain ⟨f0, f1, f2, f3, f4, f5⟩ := tcells HIT4.out
       obtain ⟨a0, a1, a2⟩ := rwcells HIA4.out
       simp only at f0 f1 f2 f3 f4 f5 a0 a1 a2
       clear hb4 CN ci HISr HIYr HIFr HITr HIAr HIQr HLr
       cases ok with
       | false =>
        as_aux_lemma =>
         have hXn : X = none := by
          rw [← HX2.out]
          unfold VS.way
          rw [if_neg]
          simp only [Int.toNat_natCast, HX.out, HY.out, HNr.out]
          decide
         have hKn : K 1 = ((0, -1), k') := by rw [HK1.out, hXn, HKK.out]; rfl
         have HKN := Lib.hid hKn
         clear hXn hKn
         go_wp2_with fail
         go_roundw
         case rel =>
          go_light
          refine ⟨1, k', v', by omega, by go_num, fun h => by omega, by rw [HKN.out], by rw [HKN.out], by rw [HKN.out], hk0', hk1', hkl', HKE'.out, HNR.out, ?_⟩
          exact HL4.out.later (((Below.refl _ _).alloc (Nat.le_refl _) _).alloc (by simp) _)
         case measure => simp [intOf]
       | true =>
        go_upto_region 11 with fail
        generalize hW : World.alloc (World.alloc w4 _) _ = w5
        have hb5 : Below w4.heap.size w4 w5 := hW ▸ ((Below.refl _ _).alloc (Nat.le_refl _) _).alloc (by simp) _
        have p0 : w5.cell? ⟨w4.heap.size, 0, none⟩ = some (.int .i64 pl) := by rw [← hW]; simp [go_sem]
        have p1 : w5.cell? ⟨w4.heap.size, 1, none⟩ = some (.int .i64 ph) := by rw [← hW]; simp [go_sem]
        have q0 : w5.cell? ⟨w4.heap.size + 1, 0, none⟩ = some (.int .i64 ql) := by rw [← hW]; simp [go_sem]
        have q1 : w5.cell? ⟨w4.heap.size + 1, 1, none⟩ = some (.int .i64 qh) := by rw [← hW]; simp [go_sem]
        have yq : w4.heap.size + 1 < w5.heap.size := by rw [← hW]; simp
        clear hW
        have HIS5 := Lib.hid (HIS4.out.later hb5 (by omega))
        have HIY5 := Lib.hid (HIY4.out.later hb5 (by omega))
        have HIF5 := Lib.hid (HIF4.out.later hb5 (by omega))
        have HIT5 := Lib.hid (HIT4.out.later hb5 (by omega))
        have HIA5 := Lib.hid (HIA4.out.later hb5 (by omega))
        have HIQ5 := Lib.hid (HIQ4.out.later hb5 (by omega))
        have HL5 := Lib.hid (HL4.out.later hb5)
        clear hb5 f0 f1 f2 f3 f4 f5 a0 a1 a2 HIS4 HIY4 HIF4 HIT4 HIA4 HIQ4 HL4
        go_cut [16] (fun p wx => p = .pointer (some ⟨w5.heap.size, 0, none⟩) ∧ P.Img wx w5.heap.size 81 (simg rwcell s) ∧ Below w5.heap.size w5 wx)
        case first =>
         as_aux_lemma =>
          go_wp2_with (first | (with_reducible refine vl_load (by simp [go_sem]; done) 102 (.tmp 5) rfl w.heap.size 0 (by simp [go_sem]; done) (scells rwcell s) _ (Img.scells HIS5.out) Tryd.underlying102 rfl (rsize _) ?_) | (with_reducible refine wpList_store_mid rfl 102 (.tmp 16) (.tmp 74) rfl w5.heap.size 0 (scells rwcell s).toArray (by simp [go_sem]; done) (by simp [go_sem]; done) (vthere_new (by rw [List.size_toArray, scells_length]; kernel_rfl)) (rsize' _) (rone _) ?_))
          go_meet
          go_light
          refine ⟨rfl, mind_put (vthere_new (by rw [List.size_toArray, scells_length]; kernel_rfl)), rsetCells (Nat.le_refl _) _ _ _ _ ((Below.refl _ _).alloc (Nat.le_refl _) _)⟩
        case rest =>
         obtain ⟨rfl, IU, hb6⟩ := hcut
         obtain ⟨w6, hw6⟩ : ∃ x, x = wc := ⟨_, rfl⟩; subst hw6
         have zu := IU.lt (by omega)
         have HU := Lib.hid IU
         have HIS6 := Lib.hid (HIS5.out.later hb6 (by omega))
         have HIY6 := Lib.hid (HIY5.out.later hb6 (by omega))
         have HIF6 := Lib.hid (HIF5.out.later hb6 (by omega))
         have HIT6 := Lib.hid (HIT5.out.later hb6 (by omega))
         have HIA6 := Lib.hid (HIA5.out.later hb6 (by omega))
         have HIQ6 := Lib.hid (HIQ5.out.later hb6 (by omega))
         have HL6 := Lib.hid (HL5.out.later hb6)
         replace p0 := (hb6.cell (p := ⟨w4.heap.size, 0, none⟩) (by simp only; omega)).trans p0
         replace p1 := (hb6.cell (p := ⟨w4.heap.size, 1, none⟩) (by simp only; omega)).trans p1
         replace q0 := (hb6.cell (p := ⟨w4.heap.size + 1, 0, none⟩) (by simp only; omega)).trans q0
         replace q1 := (hb6.cell (p := ⟨w4.heap.size + 1, 1, none⟩) (by simp only; omega)).trans q1
         have z6 : w5.heap.size ≤ w6.heap.size := hb6.size
         have nrowU : v'.ownBlock ≠ some w5.heap.size := fun e => by have := (HL5.out.look.row e).2; omega
         obtain ⟨f0, f1, f2, f3, f4, f5⟩ := tcells HIT6.out
         simp only at f0 f1 f2 f3 f4 f5
         have nU4 : ¬ w5.heap.size = w4.heap.size := by omega
         have nU5 : ¬ w5.heap.size = w4.heap.size + 1 := by omega
         have nU6 : ¬ w5.heap.size = w.heap.size + 1 + 1 + 1 := by omega
         have nU8 : ¬ w4.heap.size = w5.heap.size := by omega
         have nU9 : ¬ w4.heap.size + 1 = w5.heap.size := by omega
         have nU10 : ¬ w.heap.size + 1 + 1 + 1 = w5.heap.size := by omega
         have y4 : w4.heap.size + 1 < w6.heap.size := by omega
         have y5 : w4.heap.size < w6.heap.size := by omega
         have yT : w.heap.size + 1 + 1 + 1 < w6.heap.size := by omega
         clear hb6 IU HIS5 HIY5 HIF5 HIT5 HIA5 HIQ5 HL5
         have hXs : X = some (s.narrowed ⟨c, d, sr, r, o, nn⟩ ⟨pl, ph⟩ ⟨ql, qh⟩, ((pc + 1 : Nat) : Int)) := by
          rw [← HX2.out]
          unfold VS.way
          rw [if_pos]
          ·simp only [Int.toNat_natCast, HX.out, HY.out, HNr.out]; push_cast; rfl
          ·simp only [Int.toNat_natCast, HX.out, HY.out, HNr.out]
         have HXS := Lib.hid hXs
         clear hXs
         have HBo := Lib.hid (show P.B.Ok ⟨pl, ph⟩ ∧ P.B.Ok ⟨ql, qh⟩ from by have := bnarrow_ok (c := opp c) HOX.out HOY.out (by rw [HNr.out]); rw [HNr.out] at this; exact this)
         cases r with
         | false =>
          as_aux_lemma =>
           obtain ⟨u1, d1'⟩ : ∃ u, w6.cell? ⟨w5.heap.size, d * 3 + 1, none⟩ = some u := ⟨_, HU.out.cell (d * 3 + 1) (by omega)⟩
           obtain ⟨u2, d2⟩ : ∃ u, w6.cell? ⟨w5.heap.size, d * 3 + 2, none⟩ = some u := ⟨_, HU.out.cell (d * 3 + 2) (by omega)⟩
           have g1' := HU.out.free (d * 3 + 1) (by omega); have g2' := HU.out.free (d * 3 + 2) (by omega)
           go_upto_region 16 with fail
           generalize hW : World.setCell (World.setCell w6 _ _) _ _ = w7
           have U7 : P.Img w7 w5.heap.size 81 (simg rwcell (s.narrowed ⟨c, d, sr, false, o, nn⟩ ⟨pl, ph⟩ ⟨ql, qh⟩)) := by
            rw [← hW, show (s.narrowed ⟨c, d, sr, false, o, nn⟩ ⟨pl, ph⟩ ⟨ql, qh⟩) = { s with regs := upd s.regs d ⟨(s.regs d).kind, ⟨pl, ph⟩⟩ } from by unfold VS.narrowed; rw [if_neg (by simp)]; rfl]
            have K := (((HU.out).set (j := d * 3 + 1) (by omega) (rwcell ⟨((s).regs d).kind, ⟨pl, ph⟩⟩ 1)).set (j := d * 3 + 2) (by omega) (rwcell ⟨((s).regs d).kind, ⟨pl, ph⟩⟩ 2)).congr (simg_setat (s := s) dN ⟨pl, ph⟩ (fun _ => rfl))
            exact K
           have BU : But w5.heap.size w6 w7 := hW ▸ ((But.refl w5.heap.size w6).setCell (.inl rfl) _).setCell (.inl rfl) _
           clear hW d1' d2 g1' g2'
           have HU7 := Lib.hid U7
           clear U7
           have HL7 := Lib.hid (HL6.out.but BU (by omega) (by omega) nrowU)
           have HIS7 := Lib.hid (BU.img HIS6.out (by omega) (by omega))
           have HIY7 := Lib.hid (BU.img HIY6.out (by omega) (by omega))
           have HIF7 := Lib.hid (BU.img HIF6.out (by omega) (by omega))
           have HIT7 := Lib.hid (BU.img HIT6.out (by omega) (by omega))
           have HIA7 := Lib.hid (BU.img HIA6.out (by omega) (by omega))
           have HIQ7 := Lib.hid (BU.img HIQ6.out (by omega) (by omega))
           have z7 : w6.heap.size ≤ w7.heap.size := BU.size
           have HVS : Hid (VSOk (s.narrowed ⟨c, d, sr, false, o, nn⟩ ⟨pl, ph⟩ ⟨ql, qh⟩)) := HS.out.narrowed _ HBo.out.1 HBo.out.2
           clear BU f0 f1 f2 f3 f4 f5 p0 p1 q0 q1 HU HL6 HIS6 HIY6 HIF6 HIT6 HIA6 HIQ6
           generalize hNS : (s.narrowed ⟨c, d, sr, false, o, nn⟩ ⟨pl, ph⟩ ⟨ql, qh⟩) = ns at *
           have HNS := Lib.hid hNS
           clear hNS
           obtain ⟨f0, f1, f2, f3, f4, f5⟩ := tcells HIT7.out
           simp only at f0 f1 f2 f3 f4 f5
           have HG7 := Lib.hid (HG.out.under ((HL3.out.trans HL7.out).below HL.out) hgb)
           have HC7 := Lib.hid (HC.out.under ((HL3.out.trans HL7.out).below HL.out) hab)
           go_wp2_with (first | (with_reducible refine vl_load (by simp [go_sem]; done) 102 (.tmp 16) rfl w5.heap.size 0 (by simp [go_sem]; done) (scells rwcell ns) _ (Img.scells HU7.out) Tryd.underlying102 rfl (rsize _) ?_))
           rw [show ((pc : Int) + 1) = ((pc + 1 : Nat) : Int) by push_cast; rfl]
           have HKP := Lib.hid (vwalk_keeps HP.out f ns ((pc + 1 : Nat) : Int) k' HVS.out (by omega) (by have := HN1.out; exact_mod_cast this) (by push_cast; omega))
           have HLK := Lib.hid (vwalk_looks (S := S) f ns ((pc + 1 : Nat) : Int) k' hk1')
           have HEL := Lib.hid (vwalk_ends (S := S) f ns ((pc + 1 : Nat) : Int) k' hkl')
           have HK2' : Hid (K 1 = vwalk S f ns ((pc + 1 : Nat) : Int) k') := by show K 1 = _; rw [HK1.out, HXS.out, ← HKK.out]; rfl
           refine (HIH.out ns (pc + 1) k' v' w7 HVS.out HN1.out (by omega) hk0' hk1' hkl' HKE'.out HG7.out HC7.out HL7.out.look).mono ?_
           rintro e w8 ⟨v8, rfl, hL8⟩
           have nr7 : ∀ c', w.heap.size ≤ c' → c' < w3.heap.size → v'.ownBlock ≠ some c' := fun c' h1 h2 => HNR.out c' h1 h2
           have nr8 := Lib.hid (show ∀ c', w.heap.size ≤ c' → c' < w3.heap.size → v8.ownBlock ≠ some c' from fun c' h1 h2 => row_ne hL8.row (fun g hg => (HL7.out.look.row hg).2) (by omega) (nr7 c' h1 h2))
           have HIF8 := Lib.hid (hL8.img HIF7.out (by omega) (by omega) (nr7 _ (by omega) (by omega)))
           have r0 : w8.cell? ⟨w.heap.size + 1 + 1, 0, none⟩ = some (.int .i64 0) := HIF8.out.cell 0 (by omega)
           have r1 : w8.cell? ⟨w.heap.size + 1 + 1, 1, none⟩ = some (.int .i64 0) := HIF8.out.cell 1 (by omega)
           have t0 := HIF8.out.free 0 (by omega)
           have t1 := HIF8.out.free 1 (by omega)
           have HL8 := Lib.hid (HL7.out.trans hL8)
           have z8 : w7.heap.size ≤ w8.heap.size := hL8.size
           have zF8 : w.heap.size + 1 + 1 < w8.heap.size := by omega
           clear hL8 nr7 HIF7 f0 f1 f2 f3 f4 f5
           obtain ⟨r8, hr8⟩ : ∃ r8, vwalk S f ns ((pc + 1 : Nat) : Int) k' = r8 := ⟨_, rfl⟩
           rw [hr8] at HKP HLK HEL HL8 HK2'
           rw [hr8]
           clear hr8
           obtain ⟨⟨er, epl⟩, k8⟩ := r8
           simp only at HKP HLK HEL HL8 ⊢
           by_cases he : er = 0
           ·subst he
            have hp8 : epl = -1 := HKP.out.place rfl
            have HP8 := Lib.hid hp8
            clear hp8
            go_wp2_with fail
            go_roundw
            case rel =>
             go_light
             refine ⟨1, k8, v8, by omega, by go_num, fun h => by omega, by rw [HK2'.out], by rw [HK2'.out]; exact HP8.out, by rw [HK2'.out], Int.le_trans hk0' HKP.out.looks, HLK.out (by first | rfl | trivial), HEL.out, HKP.out.ok HKE'.out, nr8.out, ?_⟩
             exact HL8.out.later ((Below.refl _ _).alloc (Nat.le_refl _) _)
            case measure => simp [intOf]
           ·have tn := rbne_yes he
            have HE0 := Lib.hid he
            clear he
            go_wp2_with fail
            refine bodyPost_ret (v := .agg #[.int .i64 er, .int .i64 epl]) ?_ rfl ?_
            ·simp [results, Tryd.results55, go_sem, *]
            ·rw [HKR.out 0 (by omega) HJ0.out (by rw [HK2'.out]; exact HE0.out), HK2'.out]
             refine ⟨v8, rfl, ((HL3.out.trans HL8.out).but (c := w.heap.size + 1 + 1) (((But.refl (w.heap.size + 1 + 1) _).setCell (.inl rfl) _).setCell (.inl rfl) _) (show w.heap.size ≤ w.heap.size + 1 + 1 by omega) (by omega) (nr8.out _ (by omega) (by omega))).later ((Below.refl _ _).alloc (Nat.le_refl _) _)⟩
         | true =>
          by_cases hds : sr = d
          ·as_aux_lemma =>
            have hds2 := hds.symm; clear hds; subst hds2
            have ds : ((d : Int) != d) = false := by simp
            go_upto_region 16 with fail
            have HU7 : Hid (P.Img w6 w5.heap.size 81 (simg rwcell (s.narrowed ⟨c, d, d, true, o, nn⟩ ⟨pl, ph⟩ ⟨ql, qh⟩))) := by
             show P.Img w6 w5.heap.size 81 (simg rwcell (s.narrowed ⟨c, d, d, true, o, nn⟩ ⟨pl, ph⟩ ⟨ql, qh⟩))
             rw [show (s.narrowed ⟨c, d, d, true, o, nn⟩ ⟨pl, ph⟩ ⟨ql, qh⟩) = s from by unfold VS.narrowed; rw [if_pos rfl, if_pos rfl]]
             exact HU.out
            have BU := But.refl w5.heap.size w6
            have HL7 := Lib.hid (HL6.out.but BU (by omega) (by omega) nrowU)
            have HIS7 := Lib.hid (BU.img HIS6.out (by omega) (by omega))
            have HIY7 := Lib.hid (BU.img HIY6.out (by omega) (by omega))
            have HIF7 := Lib.hid (BU.img HIF6.out (by omega) (by omega))
            have HIT7 := Lib.hid (BU.img HIT6.out (by omega) (by omega))
            have HIA7 := Lib.hid (BU.img HIA6.out (by omega) (by omega))
            have HIQ7 := Lib.hid (BU.img HIQ6.out (by omega) (by omega))
            have z7 : w6.heap.size ≤ w6.heap.size := BU.size
            have HVS : Hid (VSOk (s.narrowed ⟨c, d, d, true, o, nn⟩ ⟨pl, ph⟩ ⟨ql, qh⟩)) := HS.out.narrowed _ HBo.out.1 HBo.out.2
            clear BU f0 f1 f2 f3 f4 f5 p0 p1 q0 q1 HU HL6 HIS6 HIY6 HIF6 HIT6 HIA6 HIQ6
            generalize hNS : (s.narrowed ⟨c, d, d, true, o, nn⟩ ⟨pl, ph⟩ ⟨ql, qh⟩) = ns at *
            have HNS := Lib.hid hNS
            clear hNS
            obtain ⟨f0, f1, f2, f3, f4, f5⟩ := tcells HIT7.out
            simp only at f0 f1 f2 f3 f4 f5
            have HG7 := Lib.hid (HG.out.under ((HL3.out.trans HL7.out).below HL.out) hgb)
            have HC7 := Lib.hid (HC.out.under ((HL3.out.trans HL7.out).below HL.out) hab)
            go_wp2_with (first | (with_reducible refine vl_load (by simp [go_sem]; done) 102 (.tmp 16) rfl w5.heap.size 0 (by simp [go_sem]; done) (scells rwcell ns) _ (Img.scells HU7.out) Tryd.underlying102 rfl (rsize _) ?_))
            rw [show ((pc : Int) + 1) = ((pc + 1 : Nat) : Int) by push_cast; rfl]
            have HKP := Lib.hid (vwalk_keeps HP.out f ns ((pc + 1 : Nat) : Int) k' HVS.out (by omega) (by have := HN1.out; exact_mod_cast this) (by push_cast; omega))
            have HLK := Lib.hid (vwalk_looks (S := S) f ns ((pc + 1 : Nat) : Int) k' hk1')
            have HEL := Lib.hid (vwalk_ends (S := S) f ns ((pc + 1 : Nat) : Int) k' hkl')
            have HK2' : Hid (K 1 = vwalk S f ns ((pc + 1 : Nat) : Int) k') := by show K 1 = _; rw [HK1.out, HXS.out, ← HKK.out]; rfl
            refine (HIH.out ns (pc + 1) k' v' w6 HVS.out HN1.out (by omega) hk0' hk1' hkl' HKE'.out HG7.out HC7.out HL7.out.look).mono ?_
            rintro e w8 ⟨v8, rfl, hL8⟩
            have nr7 : ∀ c', w.heap.size ≤ c' → c' < w3.heap.size → v'.ownBlock ≠ some c' := fun c' h1 h2 => HNR.out c' h1 h2
            have nr8 := Lib.hid (show ∀ c', w.heap.size ≤ c' → c' < w3.heap.size → v8.ownBlock ≠ some c' from fun c' h1 h2 => row_ne hL8.row (fun g hg => (HL7.out.look.row hg).2) (by omega) (nr7 c' h1 h2))
            have HIF8 := Lib.hid (hL8.img HIF7.out (by omega) (by omega) (nr7 _ (by omega) (by omega)))
            have r0 : w8.cell? ⟨w.heap.size + 1 + 1, 0, none⟩ = some (.int .i64 0) := HIF8.out.cell 0 (by omega)
            have r1 : w8.cell? ⟨w.heap.size + 1 + 1, 1, none⟩ = some (.int .i64 0) := HIF8.out.cell 1 (by omega)
            have t0 := HIF8.out.free 0 (by omega)
            have t1 := HIF8.out.free 1 (by omega)
            have HL8 := Lib.hid (HL7.out.trans hL8)
            have z8 : w6.heap.size ≤ w8.heap.size := hL8.size
            have zF8 : w.heap.size + 1 + 1 < w8.heap.size := by omega
            clear hL8 nr7 HIF7 f0 f1 f2 f3 f4 f5
            obtain ⟨r8, hr8⟩ : ∃ r8, vwalk S f ns ((pc + 1 : Nat) : Int) k' = r8 := ⟨_, rfl⟩
            rw [hr8] at HKP HLK HEL HL8 HK2'
            rw [hr8]
            clear hr8
            obtain ⟨⟨er, epl⟩, k8⟩ := r8
            simp only at HKP HLK HEL HL8 ⊢
            by_cases he : er = 0
            ·subst he
             have hp8 : epl = -1 := HKP.out.place rfl
             have HP8 := Lib.hid hp8
             clear hp8
             go_wp2_with fail
             go_roundw
             case rel =>
              go_light
              refine ⟨1, k8, v8, by omega, by go_num, fun h => by omega, by rw [HK2'.out], by rw [HK2'.out]; exact HP8.out, by rw [HK2'.out], Int.le_trans hk0' HKP.out.looks, HLK.out (by first | rfl | trivial), HEL.out, HKP.out.ok HKE'.out, nr8.out, ?_⟩
              exact HL8.out.later ((Below.refl _ _).alloc (Nat.le_refl _) _)
             case measure => simp [intOf]
            ·have tn := rbne_yes he
             have HE0 := Lib.hid he
             clear he
             go_wp2_with fail
             refine bodyPost_ret (v := .agg #[.int .i64 er, .int .i64 epl]) ?_ rfl ?_
             ·simp [results, Tryd.results55, go_sem, *]
             ·rw [HKR.out 0 (by omega) HJ0.out (by rw [HK2'.out]; exact HE0.out), HK2'.out]
              refine ⟨v8, rfl, ((HL3.out.trans HL8.out).but (c := w.heap.size + 1 + 1) (((But.refl (w.heap.size + 1 + 1) _).setCell (.inl rfl) _).setCell (.inl rfl) _) (show w.heap.size ≤ w.heap.size + 1 + 1 by omega) (by omega) (nr8.out _ (by omega) (by omega))).later ((Below.refl _ _).alloc (Nat.le_refl _) _)⟩
          ·as_aux_lemma =>
            have ds := rbne_yes (show (sr : Int) ≠ d by omega)
            go_upto_region 15 with fail
            obtain ⟨u1, d1'⟩ : ∃ u, w6.cell? ⟨w5.heap.size, d * 3 + 1, none⟩ = some u := ⟨_, HU.out.cell (d * 3 + 1) (by omega)⟩
            obtain ⟨u2, d2⟩ : ∃ u, w6.cell? ⟨w5.heap.size, d * 3 + 2, none⟩ = some u := ⟨_, HU.out.cell (d * 3 + 2) (by omega)⟩
            have g1' := HU.out.free (d * 3 + 1) (by omega); have g2' := HU.out.free (d * 3 + 2) (by omega)
            obtain ⟨us1, l1'⟩ : ∃ u, w6.cell? ⟨w5.heap.size, sr * 3 + 1, none⟩ = some u := ⟨_, HU.out.cell (sr * 3 + 1) (by omega)⟩
            obtain ⟨us2, l2⟩ : ∃ u, w6.cell? ⟨w5.heap.size, sr * 3 + 2, none⟩ = some u := ⟨_, HU.out.cell (sr * 3 + 2) (by omega)⟩
            have m1' := HU.out.free (sr * 3 + 1) (by omega); have m2' := HU.out.free (sr * 3 + 2) (by omega)
            have m11 : ¬ sr * 3 + 1 = d * 3 + 1 := by omega
            have m12 : ¬ sr * 3 + 1 = d * 3 + 2 := by omega
            have m21 : ¬ sr * 3 + 2 = d * 3 + 1 := by omega
            have m22 : ¬ sr * 3 + 2 = d * 3 + 2 := by omega
            have n11 : ¬ d * 3 + 1 = sr * 3 + 1 := by omega
            have n12 : ¬ d * 3 + 1 = sr * 3 + 2 := by omega
            have n21 : ¬ d * 3 + 2 = sr * 3 + 1 := by omega
            have n22 : ¬ d * 3 + 2 = sr * 3 + 2 := by omega
            go_cut [16] (fun p wx => p = .pointer (some ⟨w5.heap.size, 0, none⟩) ∧ P.Img wx w5.heap.size 81 (simg rwcell (s.narrowed ⟨c, d, sr, true, o, nn⟩ ⟨pl, ph⟩ ⟨ql, qh⟩)) ∧ But w5.heap.size w6 wx)
            case first =>
             as_aux_lemma =>
              go_region
              all_goals go_wp2_with fail
              all_goals go_meet
              all_goals go_light
              all_goals refine ⟨rfl, ?_, ?_⟩
              all_goals first | exact ((((But.refl w5.heap.size w6).setCell (.inl rfl) _).setCell (.inl rfl) _).setCell (.inl rfl) _).setCell (.inl rfl) _ | exact (((((But.refl w5.heap.size w6).setCell (.inl rfl) _).setCell (.inl rfl) _).setCell (.inl rfl) _).setCell (.inl rfl) _).drew | skip
              all_goals
               have e1 : (s.narrowed ⟨c, d, sr, true, o, nn⟩ ⟨pl, ph⟩ ⟨ql, qh⟩) = { s with regs := upd (upd s.regs d ⟨(s.regs d).kind, ⟨pl, ph⟩⟩) sr ⟨(s.regs sr).kind, ⟨ql, qh⟩⟩ } := by
                unfold VS.narrowed
                rw [if_pos rfl, if_neg (by simp only; omega)]
                simp only [Int.toNat_natCast]
                congr 1
                funext j
                unfold upd
                by_cases h1 : j = d
                ·subst h1; simp [show ¬ j = sr from by omega]
                ·simp [h1]
               have K1 := (((HU.out).set (j := d * 3 + 1) (by omega) (rwcell ⟨((s).regs d).kind, ⟨pl, ph⟩⟩ 1)).set (j := d * 3 + 2) (by omega) (rwcell ⟨((s).regs d).kind, ⟨pl, ph⟩⟩ 2)).congr (simg_setat (s := s) dN ⟨pl, ph⟩ (fun _ => rfl))
               have K2 := (((K1).set (j := sr * 3 + 1) (by omega) (rwcell ⟨((({ s with regs := upd s.regs d ⟨(s.regs d).kind, ⟨pl, ph⟩⟩ } : VS)).regs sr).kind, ⟨ql, qh⟩⟩ 1)).set (j := sr * 3 + 2) (by omega) (rwcell ⟨((({ s with regs := upd s.regs d ⟨(s.regs d).kind, ⟨pl, ph⟩⟩ } : VS)).regs sr).kind, ⟨ql, qh⟩⟩ 2)).congr (simg_setat (s := ({ s with regs := upd s.regs d ⟨(s.regs d).kind, ⟨pl, ph⟩⟩ } : VS)) sN ⟨ql, qh⟩ (fun _ => rfl))
               have e2 : upd s.regs d ⟨(s.regs d).kind, ⟨pl, ph⟩⟩ sr = s.regs sr := upd_other (by omega)
               simp only [e2] at K2
               rw [e1]
               first | exact K2 | exact K2.drew
            case rest =>
             obtain ⟨rfl, U7, BU⟩ := hcut
             obtain ⟨w7, hw7⟩ : ∃ x, x = wc := ⟨_, rfl⟩; subst hw7
             clear d1' d2 g1' g2' l1' l2 m1' m2' m11 m12 m21 m22 n11 n12 n21 n22
             have HU7 := Lib.hid U7
             clear U7
             have HL7 := Lib.hid (HL6.out.but BU (by omega) (by omega) nrowU)
             have HIS7 := Lib.hid (BU.img HIS6.out (by omega) (by omega))
             have HIY7 := Lib.hid (BU.img HIY6.out (by omega) (by omega))
             have HIF7 := Lib.hid (BU.img HIF6.out (by omega) (by omega))
             have HIT7 := Lib.hid (BU.img HIT6.out (by omega) (by omega))
             have HIA7 := Lib.hid (BU.img HIA6.out (by omega) (by omega))
             have HIQ7 := Lib.hid (BU.img HIQ6.out (by omega) (by omega))
             have z7 : w6.heap.size ≤ w7.heap.size := BU.size
             have HVS : Hid (VSOk (s.narrowed ⟨c, d, sr, true, o, nn⟩ ⟨pl, ph⟩ ⟨ql, qh⟩)) := HS.out.narrowed _ HBo.out.1 HBo.out.2
             clear BU f0 f1 f2 f3 f4 f5 p0 p1 q0 q1 HU HL6 HIS6 HIY6 HIF6 HIT6 HIA6 HIQ6
             generalize hNS : (s.narrowed ⟨c, d, sr, true, o, nn⟩ ⟨pl, ph⟩ ⟨ql, qh⟩) = ns at *
             have HNS := Lib.hid hNS
             clear hNS
             obtain ⟨f0, f1, f2, f3, f4, f5⟩ := tcells HIT7.out
             simp only at f0 f1 f2 f3 f4 f5
             have HG7 := Lib.hid (HG.out.under ((HL3.out.trans HL7.out).below HL.out) hgb)
             have HC7 := Lib.hid (HC.out.under ((HL3.out.trans HL7.out).below HL.out) hab)
             go_wp2_with (first | (with_reducible refine vl_load (by simp [go_sem]; done) 102 (.tmp 16) rfl w5.heap.size 0 (by simp [go_sem]; done) (scells rwcell ns) _ (Img.scells HU7.out) Tryd.underlying102 rfl (rsize _) ?_))
             rw [show ((pc : Int) + 1) = ((pc + 1 : Nat) : Int) by push_cast; rfl]
             have HKP := Lib.hid (vwalk_keeps HP.out f ns ((pc + 1 : Nat) : Int) k' HVS.out (by omega) (by have := HN1.out; exact_mod_cast this) (by push_cast; omega))
             have HLK := Lib.hid (vwalk_looks (S := S) f ns ((pc + 1 : Nat) : Int) k' hk1')
             have HEL := Lib.hid (vwalk_ends (S := S) f ns ((pc + 1 : Nat) : Int) k' hkl')
             have HK2' : Hid (K 1 = vwalk S f ns ((pc + 1 : Nat) : Int) k') := by show K 1 = _; rw [HK1.out, HXS.out, ← HKK.out]; rfl
             refine (HIH.out ns (pc + 1) k' v' w7 HVS.out HN1.out (by omega) hk0' hk1' hkl' HKE'.out HG7.out HC7.out HL7.out.look).mono ?_
             rintro e w8 ⟨v8, rfl, hL8⟩
             have nr7 : ∀ c', w.heap.size ≤ c' → c' < w3.heap.size → v'.ownBlock ≠ some c' := fun c' h1 h2 => HNR.out c' h1 h2
             have nr8 := Lib.hid (show ∀ c', w.heap.size ≤ c' → c' < w3.heap.size → v8.ownBlock ≠ some c' from fun c' h1 h2 => row_ne hL8.row (fun g hg => (HL7.out.look.row hg).2) (by omega) (nr7 c' h1 h2))
             have HIF8 := Lib.hid (hL8.img HIF7.out (by omega) (by omega) (nr7 _ (by omega) (by omega)))
             have r0 : w8.cell? ⟨w.heap.size + 1 + 1, 0, none⟩ = some (.int .i64 0) := HIF8.out.cell 0 (by omega)
             have r1 : w8.cell? ⟨w.heap.size + 1 + 1, 1, none⟩ = some (.int .i64 0) := HIF8.out.cell 1 (by omega)
             have t0 := HIF8.out.free 0 (by omega)
             have t1 := HIF8.out.free 1 (by omega)
             have HL8 := Lib.hid (HL7.out.trans hL8)
             have z8 : w7.heap.size ≤ w8.heap.size := hL8.size
             have zF8 : w.heap.size + 1 + 1 < w8.heap.size := by omega
             clear hL8 nr7 HIF7 f0 f1 f2 f3 f4 f5
             obtain ⟨r8, hr8⟩ : ∃ r8, vwalk S f ns ((pc + 1 : Nat) : Int) k' = r8 := ⟨_, rfl⟩
             rw [hr8] at HKP HLK HEL HL8 HK2'
             rw [hr8]
             clear hr8
             obtain ⟨⟨er, epl⟩, k8⟩ := r8
             simp only at HKP HLK HEL HL8 ⊢
             by_cases he : er = 0
             ·subst he
              have hp8 : epl = -1 := HKP.out.place rfl
              have HP8 := Lib.hid hp8
              clear hp8
              go_wp2_with fail
              go_roundw
              case rel =>
               go_light
               refine ⟨1, k8, v8, by omega, by go_num, fun h => by omega, by rw [HK2'.out], by rw [HK2'.out]; exact HP8.out, by rw [HK2'.out], Int.le_trans hk0' HKP.out.looks, HLK.out (by first | rfl | trivial), HEL.out, HKP.out.ok HKE'.out, nr8.out, ?_⟩
               exact HL8.out.later ((Below.refl _ _).alloc (Nat.le_refl _) _)
              case measure => simp [intOf]
             ·have tn := rbne_yes he
              have HE0 := Lib.hid he
              clear he
              go_wp2_with fail
              refine bodyPost_ret (v := .agg #[.int .i64 er, .int .i64 epl]) ?_ rfl ?_
              ·simp [results, Tryd.results55, go_sem, *]
              ·rw [HKR.out 0 (by omega) HJ0.out (by rw [HK2'.out]; exact HE0.out), HK2'.out]
               refine ⟨v8, rfl, ((HL3.out.trans HL8.out).but (c := w.heap.size + 1 + 1) (((But.refl (w.heap.size + 1 + 1) _).setCell (.inl rfl) _).setCell (.inl rfl) _) (show w.heap.size ≤ w.heap.size + 1 + 1 by omega) (by omega) (nr8.out _ (by omega) (by omega))).later ((Below.refl _ _).alloc (Nat.le_refl _) _)⟩
     ·as_aux_lemma =>
       have ci : wr.cell? ⟨Q, 1, none⟩ = some (.int .i64 (c)) := HIQr.out.cell 1 (by omega)
       have CN := Lib.hid (fun w => RefNarrow_any (c) xl xh yl yh HOX.out.1 HOX.out.2.1 HOY.out.1 HOY.out.2.1 HOX.out.2.2 HOY.out.2.2 w)
       obtain ⟨Nr, hNr⟩ : ∃ Nr, bnarrow (c) ⟨xl, xh⟩ ⟨yl, yh⟩ = Nr := ⟨_, rfl⟩
       rw [hNr] at CN
       have HNr := Lib.hid hNr
       clear hNr
       obtain ⟨⟨pl, ph⟩, ⟨ql, qh⟩, ok⟩ := Nr
       simp only at CN
       go_wp2_with fail
       refine (CN.out _).mono ?_
       rintro e w4 ⟨rfl, hb4⟩
       have HIS4 := Lib.hid (HISr.out.later hb4 (by omega))
       have HIY4 := Lib.hid (HIYr.out.later hb4 (by omega))
       have HIF4 := Lib.hid (HIFr.out.later hb4 (by omega))
       have HIT4 := Lib.hid (HITr.out.later hb4 (by omega))
       have HIA4 := Lib.hid (HIAr.out.later hb4 (by omega))
       have HIQ4 := Lib.hid (HIQr.out.later hb4 (by omega))
       have HL4 := Lib.hid (HLr.out.later hb4)
       have z4 : wr.heap.size ≤ w4.heap.size := hb4.size
       obtain ⟨f0, f1, f2, f3, f4, f5⟩ := tcells HIT4.out
       obtain ⟨a0, a1, a2⟩ := rwcells HIA4.out
       simp only at f0 f1 f2 f3 f4 f5 a0 a1 a2
       clear hb4 CN ci HISr HIYr HIFr HITr HIAr HIQr HLr
       cases ok with
       | false =>
        as_aux_lemma =>
         have hXn : Y = none := by
          rw [← HY2.out]
          unfold VS.way
          rw [if_neg]
          simp only [Int.toNat_natCast, HX.out, HY.out, HNr.out]
          decide
         have hKn : K 2 = ((0, -1), k') := by rw [HK2.out, hXn, HKK.out]; rfl
         have HKN := Lib.hid hKn
         clear hXn hKn
         go_wp2_with fail
         go_roundw
         case rel =>
          go_light
          refine ⟨2, k', v', by omega, by go_num, fun _ => HJ0.out, by rw [HKN.out], by rw [HKN.out], by rw [HKN.out], hk0', hk1', hkl', HKE'.out, HNR.out, ?_⟩
          exact HL4.out.later (((Below.refl _ _).alloc (Nat.le_refl _) _).alloc (by simp) _)
         case measure => simp [intOf]
       | true =>
        go_upto_region 11 with fail
        generalize hW : World.alloc (World.alloc w4 _) _ = w5
        have hb5 : Below w4.heap.size w4 w5 := hW ▸ ((Below.refl _ _).alloc (Nat.le_refl _) _).alloc (by simp) _
        have p0 : w5.cell? ⟨w4.heap.size, 0, none⟩ = some (.int .i64 pl) := by rw [← hW]; simp [go_sem]
        have p1 : w5.cell? ⟨w4.heap.size, 1, none⟩ = some (.int .i64 ph) := by rw [← hW]; simp [go_sem]
        have q0 : w5.cell? ⟨w4.heap.size + 1, 0, none⟩ = some (.int .i64 ql) := by rw [← hW]; simp [go_sem]
        have q1 : w5.cell? ⟨w4.heap.size + 1, 1, none⟩ = some (.int .i64 qh) := by rw [← hW]; simp [go_sem]
        have yq : w4.heap.size + 1 < w5.heap.size := by rw [← hW]; simp
        clear hW
        have HIS5 := Lib.hid (HIS4.out.later hb5 (by omega))
        have HIY5 := Lib.hid (HIY4.out.later hb5 (by omega))
        have HIF5 := Lib.hid (HIF4.out.later hb5 (by omega))
        have HIT5 := Lib.hid (HIT4.out.later hb5 (by omega))
        have HIA5 := Lib.hid (HIA4.out.later hb5 (by omega))
        have HIQ5 := Lib.hid (HIQ4.out.later hb5 (by omega))
        have HL5 := Lib.hid (HL4.out.later hb5)
        clear hb5 f0 f1 f2 f3 f4 f5 a0 a1 a2 HIS4 HIY4 HIF4 HIT4 HIA4 HIQ4 HL4
        go_cut [16] (fun p wx => p = .pointer (some ⟨w5.heap.size, 0, none⟩) ∧ P.Img wx w5.heap.size 81 (simg rwcell s) ∧ Below w5.heap.size w5 wx)
        case first =>
         as_aux_lemma =>
          go_wp2_with (first | (with_reducible refine vl_load (by simp [go_sem]; done) 102 (.tmp 5) rfl w.heap.size 0 (by simp [go_sem]; done) (scells rwcell s) _ (Img.scells HIS5.out) Tryd.underlying102 rfl (rsize _) ?_) | (with_reducible refine wpList_store_mid rfl 102 (.tmp 16) (.tmp 74) rfl w5.heap.size 0 (scells rwcell s).toArray (by simp [go_sem]; done) (by simp [go_sem]; done) (vthere_new (by rw [List.size_toArray, scells_length]; kernel_rfl)) (rsize' _) (rone _) ?_))
          go_meet
          go_light
          refine ⟨rfl, mind_put (vthere_new (by rw [List.size_toArray, scells_length]; kernel_rfl)), rsetCells (Nat.le_refl _) _ _ _ _ ((Below.refl _ _).alloc (Nat.le_refl _) _)⟩
        case rest =>
         obtain ⟨rfl, IU, hb6⟩ := hcut
         obtain ⟨w6, hw6⟩ : ∃ x, x = wc := ⟨_, rfl⟩; subst hw6
         have zu := IU.lt (by omega)
         have HU := Lib.hid IU
         have HIS6 := Lib.hid (HIS5.out.later hb6 (by omega))
         have HIY6 := Lib.hid (HIY5.out.later hb6 (by omega))
         have HIF6 := Lib.hid (HIF5.out.later hb6 (by omega))
         have HIT6 := Lib.hid (HIT5.out.later hb6 (by omega))
         have HIA6 := Lib.hid (HIA5.out.later hb6 (by omega))
         have HIQ6 := Lib.hid (HIQ5.out.later hb6 (by omega))
         have HL6 := Lib.hid (HL5.out.later hb6)
         replace p0 := (hb6.cell (p := ⟨w4.heap.size, 0, none⟩) (by simp only; omega)).trans p0
         replace p1 := (hb6.cell (p := ⟨w4.heap.size, 1, none⟩) (by simp only; omega)).trans p1
         replace q0 := (hb6.cell (p := ⟨w4.heap.size + 1, 0, none⟩) (by simp only; omega)).trans q0
         replace q1 := (hb6.cell (p := ⟨w4.heap.size + 1, 1, none⟩) (by simp only; omega)).trans q1
         have z6 : w5.heap.size ≤ w6.heap.size := hb6.size
         have nrowU : v'.ownBlock ≠ some w5.heap.size := fun e => by have := (HL5.out.look.row e).2; omega
         obtain ⟨f0, f1, f2, f3, f4, f5⟩ := tcells HIT6.out
         simp only at f0 f1 f2 f3 f4 f5
         have nU4 : ¬ w5.heap.size = w4.heap.size := by omega
         have nU5 : ¬ w5.heap.size = w4.heap.size + 1 := by omega
         have nU6 : ¬ w5.heap.size = w.heap.size + 1 + 1 + 1 := by omega
         have nU8 : ¬ w4.heap.size = w5.heap.size := by omega
         have nU9 : ¬ w4.heap.size + 1 = w5.heap.size := by omega
         have nU10 : ¬ w.heap.size + 1 + 1 + 1 = w5.heap.size := by omega
         have y4 : w4.heap.size + 1 < w6.heap.size := by omega
         have y5 : w4.heap.size < w6.heap.size := by omega
         have yT : w.heap.size + 1 + 1 + 1 < w6.heap.size := by omega
         clear hb6 IU HIS5 HIY5 HIF5 HIT5 HIA5 HIQ5 HL5
         have hXs : Y = some (s.narrowed ⟨c, d, sr, r, o, nn⟩ ⟨pl, ph⟩ ⟨ql, qh⟩, ((pc + 1 + o : Nat) : Int)) := by
          rw [← HY2.out]
          unfold VS.way
          rw [if_pos]
          ·simp only [Int.toNat_natCast, HX.out, HY.out, HNr.out]; push_cast; rfl
          ·simp only [Int.toNat_natCast, HX.out, HY.out, HNr.out]
         have HXS := Lib.hid hXs
         clear hXs
         have HBo := Lib.hid (show P.B.Ok ⟨pl, ph⟩ ∧ P.B.Ok ⟨ql, qh⟩ from by have := bnarrow_ok (c := c) HOX.out HOY.out (by rw [HNr.out]); rw [HNr.out] at this; exact this)
         cases r with
         | false =>
          as_aux_lemma =>
           obtain ⟨u1, d1'⟩ : ∃ u, w6.cell? ⟨w5.heap.size, d * 3 + 1, none⟩ = some u := ⟨_, HU.out.cell (d * 3 + 1) (by omega)⟩
           obtain ⟨u2, d2⟩ : ∃ u, w6.cell? ⟨w5.heap.size, d * 3 + 2, none⟩ = some u := ⟨_, HU.out.cell (d * 3 + 2) (by omega)⟩
           have g1' := HU.out.free (d * 3 + 1) (by omega); have g2' := HU.out.free (d * 3 + 2) (by omega)
           go_upto_region 16 with fail
           generalize hW : World.setCell (World.setCell w6 _ _) _ _ = w7
           have U7 : P.Img w7 w5.heap.size 81 (simg rwcell (s.narrowed ⟨c, d, sr, false, o, nn⟩ ⟨pl, ph⟩ ⟨ql, qh⟩)) := by
            rw [← hW, show (s.narrowed ⟨c, d, sr, false, o, nn⟩ ⟨pl, ph⟩ ⟨ql, qh⟩) = { s with regs := upd s.regs d ⟨(s.regs d).kind, ⟨pl, ph⟩⟩ } from by unfold VS.narrowed; rw [if_neg (by simp)]; rfl]
            have K := (((HU.out).set (j := d * 3 + 1) (by omega) (rwcell ⟨((s).regs d).kind, ⟨pl, ph⟩⟩ 1)).set (j := d * 3 + 2) (by omega) (rwcell ⟨((s).regs d).kind, ⟨pl, ph⟩⟩ 2)).congr (simg_setat (s := s) dN ⟨pl, ph⟩ (fun _ => rfl))
            exact K
           have BU : But w5.heap.size w6 w7 := hW ▸ ((But.refl w5.heap.size w6).setCell (.inl rfl) _).setCell (.inl rfl) _
           clear hW d1' d2 g1' g2'
           have HU7 := Lib.hid U7
           clear U7
           have HL7 := Lib.hid (HL6.out.but BU (by omega) (by omega) nrowU)
           have HIS7 := Lib.hid (BU.img HIS6.out (by omega) (by omega))
           have HIY7 := Lib.hid (BU.img HIY6.out (by omega) (by omega))
           have HIF7 := Lib.hid (BU.img HIF6.out (by omega) (by omega))
           have HIT7 := Lib.hid (BU.img HIT6.out (by omega) (by omega))
           have HIA7 := Lib.hid (BU.img HIA6.out (by omega) (by omega))
           have HIQ7 := Lib.hid (BU.img HIQ6.out (by omega) (by omega))
           have z7 : w6.heap.size ≤ w7.heap.size := BU.size
           have HVS : Hid (VSOk (s.narrowed ⟨c, d, sr, false, o, nn⟩ ⟨pl, ph⟩ ⟨ql, qh⟩)) := HS.out.narrowed _ HBo.out.1 HBo.out.2
           clear BU f0 f1 f2 f3 f4 f5 p0 p1 q0 q1 HU HL6 HIS6 HIY6 HIF6 HIT6 HIA6 HIQ6
           generalize hNS : (s.narrowed ⟨c, d, sr, false, o, nn⟩ ⟨pl, ph⟩ ⟨ql, qh⟩) = ns at *
           have HNS := Lib.hid hNS
           clear hNS
           obtain ⟨f0, f1, f2, f3, f4, f5⟩ := tcells HIT7.out
           simp only at f0 f1 f2 f3 f4 f5
           have HG7 := Lib.hid (HG.out.under ((HL3.out.trans HL7.out).below HL.out) hgb)
           have HC7 := Lib.hid (HC.out.under ((HL3.out.trans HL7.out).below HL.out) hab)
           go_wp2_with (first | (with_reducible refine vl_load (by simp [go_sem]; done) 102 (.tmp 16) rfl w5.heap.size 0 (by simp [go_sem]; done) (scells rwcell ns) _ (Img.scells HU7.out) Tryd.underlying102 rfl (rsize _) ?_))
           rw [show ((pc : Int) + 1 + (o : Int)) = ((pc + 1 + o : Nat) : Int) by push_cast; rfl]
           have HKP := Lib.hid (vwalk_keeps HP.out f ns ((pc + 1 + o : Nat) : Int) k' HVS.out (by omega) (by have := HN2.out; exact_mod_cast this) (by push_cast; omega))
           have HLK := Lib.hid (vwalk_looks (S := S) f ns ((pc + 1 + o : Nat) : Int) k' hk1')
           have HEL := Lib.hid (vwalk_ends (S := S) f ns ((pc + 1 + o : Nat) : Int) k' hkl')
           have HK2' : Hid (K 2 = vwalk S f ns ((pc + 1 + o : Nat) : Int) k') := by show K 2 = _; rw [HK2.out, HXS.out, ← HKK.out]; rfl
           refine (HIH.out ns (pc + 1 + o) k' v' w7 HVS.out HN2.out (by omega) hk0' hk1' hkl' HKE'.out HG7.out HC7.out HL7.out.look).mono ?_
           rintro e w8 ⟨v8, rfl, hL8⟩
           have nr7 : ∀ c', w.heap.size ≤ c' → c' < w3.heap.size → v'.ownBlock ≠ some c' := fun c' h1 h2 => HNR.out c' h1 h2
           have nr8 := Lib.hid (show ∀ c', w.heap.size ≤ c' → c' < w3.heap.size → v8.ownBlock ≠ some c' from fun c' h1 h2 => row_ne hL8.row (fun g hg => (HL7.out.look.row hg).2) (by omega) (nr7 c' h1 h2))
           have HIF8 := Lib.hid (hL8.img HIF7.out (by omega) (by omega) (nr7 _ (by omega) (by omega)))
           have r0 : w8.cell? ⟨w.heap.size + 1 + 1, 0, none⟩ = some (.int .i64 0) := HIF8.out.cell 0 (by omega)
           have r1 : w8.cell? ⟨w.heap.size + 1 + 1, 1, none⟩ = some (.int .i64 0) := HIF8.out.cell 1 (by omega)
           have t0 := HIF8.out.free 0 (by omega)
           have t1 := HIF8.out.free 1 (by omega)
           have HL8 := Lib.hid (HL7.out.trans hL8)
           have z8 : w7.heap.size ≤ w8.heap.size := hL8.size
           have zF8 : w.heap.size + 1 + 1 < w8.heap.size := by omega
           clear hL8 nr7 HIF7 f0 f1 f2 f3 f4 f5
           obtain ⟨r8, hr8⟩ : ∃ r8, vwalk S f ns ((pc + 1 + o : Nat) : Int) k' = r8 := ⟨_, rfl⟩
           rw [hr8] at HKP HLK HEL HL8 HK2'
           rw [hr8]
           clear hr8
           obtain ⟨⟨er, epl⟩, k8⟩ := r8
           simp only at HKP HLK HEL HL8 ⊢
           by_cases he : er = 0
           ·subst he
            have hp8 : epl = -1 := HKP.out.place rfl
            have HP8 := Lib.hid hp8
            clear hp8
            go_wp2_with fail
            go_roundw
            case rel =>
             go_light
             refine ⟨2, k8, v8, by omega, by go_num, fun _ => HJ0.out, by rw [HK2'.out], by rw [HK2'.out]; exact HP8.out, by rw [HK2'.out], Int.le_trans hk0' HKP.out.looks, HLK.out (by first | rfl | trivial), HEL.out, HKP.out.ok HKE'.out, nr8.out, ?_⟩
             exact HL8.out.later ((Below.refl _ _).alloc (Nat.le_refl _) _)
            case measure => simp [intOf]
           ·have tn := rbne_yes he
            have HE0 := Lib.hid he
            clear he
            go_wp2_with fail
            refine bodyPost_ret (v := .agg #[.int .i64 er, .int .i64 epl]) ?_ rfl ?_
            ·simp [results, Tryd.results55, go_sem, *]
            ·rw [HKR.out 1 (by omega) HJ0.out (by rw [HK2'.out]; exact HE0.out), HK2'.out]
             refine ⟨v8, rfl, ((HL3.out.trans HL8.out).but (c := w.heap.size + 1 + 1) (((But.refl (w.heap.size + 1 + 1) _).setCell (.inl rfl) _).setCell (.inl rfl) _) (show w.heap.size ≤ w.heap.size + 1 + 1 by omega) (by omega) (nr8.out _ (by omega) (by omega))).later ((Below.refl _ _).alloc (Nat.le_refl _) _)⟩
         | true =>
          by_cases hds : sr = d
          ·as_aux_lemma =>
            have hds2 := hds.symm; clear hds; subst hds2
            have ds : ((d : Int) != d) = false := by simp
            go_upto_region 16 with fail
            have HU7 : Hid (P.Img w6 w5.heap.size 81 (simg rwcell (s.narrowed ⟨c, d, d, true, o, nn⟩ ⟨pl, ph⟩ ⟨ql, qh⟩))) := by
             show P.Img w6 w5.heap.size 81 (simg rwcell (s.narrowed ⟨c, d, d, true, o, nn⟩ ⟨pl, ph⟩ ⟨ql, qh⟩))
             rw [show (s.narrowed ⟨c, d, d, true, o, nn⟩ ⟨pl, ph⟩ ⟨ql, qh⟩) = s from by unfold VS.narrowed; rw [if_pos rfl, if_pos rfl]]
             exact HU.out
            have BU := But.refl w5.heap.size w6
            have HL7 := Lib.hid (HL6.out.but BU (by omega) (by omega) nrowU)
            have HIS7 := Lib.hid (BU.img HIS6.out (by omega) (by omega))
            have HIY7 := Lib.hid (BU.img HIY6.out (by omega) (by omega))
            have HIF7 := Lib.hid (BU.img HIF6.out (by omega) (by omega))
            have HIT7 := Lib.hid (BU.img HIT6.out (by omega) (by omega))
            have HIA7 := Lib.hid (BU.img HIA6.out (by omega) (by omega))
            have HIQ7 := Lib.hid (BU.img HIQ6.out (by omega) (by omega))
            have z7 : w6.heap.size ≤ w6.heap.size := BU.size
            have HVS : Hid (VSOk (s.narrowed ⟨c, d, d, true, o, nn⟩ ⟨pl, ph⟩ ⟨ql, qh⟩)) := HS.out.narrowed _ HBo.out.1 HBo.out.2
            clear BU f0 f1 f2 f3 f4 f5 p0 p1 q0 q1 HU HL6 HIS6 HIY6 HIF6 HIT6 HIA6 HIQ6
            generalize hNS : (s.narrowed ⟨c, d, d, true, o, nn⟩ ⟨pl, ph⟩ ⟨ql, qh⟩) = ns at *
            have HNS := Lib.hid hNS
            clear hNS
            obtain ⟨f0, f1, f2, f3, f4, f5⟩ := tcells HIT7.out
            simp only at f0 f1 f2 f3 f4 f5
            have HG7 := Lib.hid (HG.out.under ((HL3.out.trans HL7.out).below HL.out) hgb)
            have HC7 := Lib.hid (HC.out.under ((HL3.out.trans HL7.out).below HL.out) hab)
            go_wp2_with (first | (with_reducible refine vl_load (by simp [go_sem]; done) 102 (.tmp 16) rfl w5.heap.size 0 (by simp [go_sem]; done) (scells rwcell ns) _ (Img.scells HU7.out) Tryd.underlying102 rfl (rsize _) ?_))
            rw [show ((pc : Int) + 1 + (o : Int)) = ((pc + 1 + o : Nat) : Int) by push_cast; rfl]
            have HKP := Lib.hid (vwalk_keeps HP.out f ns ((pc + 1 + o : Nat) : Int) k' HVS.out (by omega) (by have := HN2.out; exact_mod_cast this) (by push_cast; omega))
            have HLK := Lib.hid (vwalk_looks (S := S) f ns ((pc + 1 + o : Nat) : Int) k' hk1')
            have HEL := Lib.hid (vwalk_ends (S := S) f ns ((pc + 1 + o : Nat) : Int) k' hkl')
            have HK2' : Hid (K 2 = vwalk S f ns ((pc + 1 + o : Nat) : Int) k') := by show K 2 = _; rw [HK2.out, HXS.out, ← HKK.out]; rfl
            refine (HIH.out ns (pc + 1 + o) k' v' w6 HVS.out HN2.out (by omega) hk0' hk1' hkl' HKE'.out HG7.out HC7.out HL7.out.look).mono ?_
            rintro e w8 ⟨v8, rfl, hL8⟩
            have nr7 : ∀ c', w.heap.size ≤ c' → c' < w3.heap.size → v'.ownBlock ≠ some c' := fun c' h1 h2 => HNR.out c' h1 h2
            have nr8 := Lib.hid (show ∀ c', w.heap.size ≤ c' → c' < w3.heap.size → v8.ownBlock ≠ some c' from fun c' h1 h2 => row_ne hL8.row (fun g hg => (HL7.out.look.row hg).2) (by omega) (nr7 c' h1 h2))
            have HIF8 := Lib.hid (hL8.img HIF7.out (by omega) (by omega) (nr7 _ (by omega) (by omega)))
            have r0 : w8.cell? ⟨w.heap.size + 1 + 1, 0, none⟩ = some (.int .i64 0) := HIF8.out.cell 0 (by omega)
            have r1 : w8.cell? ⟨w.heap.size + 1 + 1, 1, none⟩ = some (.int .i64 0) := HIF8.out.cell 1 (by omega)
            have t0 := HIF8.out.free 0 (by omega)
            have t1 := HIF8.out.free 1 (by omega)
            have HL8 := Lib.hid (HL7.out.trans hL8)
            have z8 : w6.heap.size ≤ w8.heap.size := hL8.size
            have zF8 : w.heap.size + 1 + 1 < w8.heap.size := by omega
            clear hL8 nr7 HIF7 f0 f1 f2 f3 f4 f5
            obtain ⟨r8, hr8⟩ : ∃ r8, vwalk S f ns ((pc + 1 + o : Nat) : Int) k' = r8 := ⟨_, rfl⟩
            rw [hr8] at HKP HLK HEL HL8 HK2'
            rw [hr8]
            clear hr8
            obtain ⟨⟨er, epl⟩, k8⟩ := r8
            simp only at HKP HLK HEL HL8 ⊢
            by_cases he : er = 0
            ·subst he
             have hp8 : epl = -1 := HKP.out.place rfl
             have HP8 := Lib.hid hp8
             clear hp8
             go_wp2_with fail
             go_roundw
             case rel =>
              go_light
              refine ⟨2, k8, v8, by omega, by go_num, fun _ => HJ0.out, by rw [HK2'.out], by rw [HK2'.out]; exact HP8.out, by rw [HK2'.out], Int.le_trans hk0' HKP.out.looks, HLK.out (by first | rfl | trivial), HEL.out, HKP.out.ok HKE'.out, nr8.out, ?_⟩
              exact HL8.out.later ((Below.refl _ _).alloc (Nat.le_refl _) _)
             case measure => simp [intOf]
            ·have tn := rbne_yes he
             have HE0 := Lib.hid he
             clear he
             go_wp2_with fail
             refine bodyPost_ret (v := .agg #[.int .i64 er, .int .i64 epl]) ?_ rfl ?_
             ·simp [results, Tryd.results55, go_sem, *]
             ·rw [HKR.out 1 (by omega) HJ0.out (by rw [HK2'.out]; exact HE0.out), HK2'.out]
              refine ⟨v8, rfl, ((HL3.out.trans HL8.out).but (c := w.heap.size + 1 + 1) (((But.refl (w.heap.size + 1 + 1) _).setCell (.inl rfl) _).setCell (.inl rfl) _) (show w.heap.size ≤ w.heap.size + 1 + 1 by omega) (by omega) (nr8.out _ (by omega) (by omega))).later ((Below.refl _ _).alloc (Nat.le_refl _) _)⟩
          ·as_aux_lemma =>
            have ds := rbne_yes (show (sr : Int) ≠ d by omega)
            go_upto_region 15 with fail
            obtain ⟨u1, d1'⟩ : ∃ u, w6.cell? ⟨w5.heap.size, d * 3 + 1, none⟩ = some u := ⟨_, HU.out.cell (d * 3 + 1) (by omega)⟩
            obtain ⟨u2, d2⟩ : ∃ u, w6.cell? ⟨w5.heap.size, d * 3 + 2, none⟩ = some u := ⟨_, HU.out.cell (d * 3 + 2) (by omega)⟩
            have g1' := HU.out.free (d * 3 + 1) (by omega); have g2' := HU.out.free (d * 3 + 2) (by omega)
            obtain ⟨us1, l1'⟩ : ∃ u, w6.cell? ⟨w5.heap.size, sr * 3 + 1, none⟩ = some u := ⟨_, HU.out.cell (sr * 3 + 1) (by omega)⟩
            obtain ⟨us2, l2⟩ : ∃ u, w6.cell? ⟨w5.heap.size, sr * 3 + 2, none⟩ = some u := ⟨_, HU.out.cell (sr * 3 + 2) (by omega)⟩
            have m1' := HU.out.free (sr * 3 + 1) (by omega); have m2' := HU.out.free (sr * 3 + 2) (by omega)
            have m11 : ¬ sr * 3 + 1 = d * 3 + 1 := by omega
            have m12 : ¬ sr * 3 + 1 = d * 3 + 2 := by omega
            have m21 : ¬ sr * 3 + 2 = d * 3 + 1 := by omega
            have m22 : ¬ sr * 3 + 2 = d * 3 + 2 := by omega
            have n11 : ¬ d * 3 + 1 = sr * 3 + 1 := by omega
            have n12 : ¬ d * 3 + 1 = sr * 3 + 2 := by omega
            have n21 : ¬ d * 3 + 2 = sr * 3 + 1 := by omega
            have n22 : ¬ d * 3 + 2 = sr * 3 + 2 := by omega
            go_cut [16] (fun p wx => p = .pointer (some ⟨w5.heap.size, 0, none⟩) ∧ P.Img wx w5.heap.size 81 (simg rwcell (s.narrowed ⟨c, d, sr, true, o, nn⟩ ⟨pl, ph⟩ ⟨ql, qh⟩)) ∧ But w5.heap.size w6 wx)
            case first =>
             as_aux_lemma =>
              go_region
              all_goals go_wp2_with fail
              all_goals go_meet
              all_goals go_light
              all_goals refine ⟨rfl, ?_, ?_⟩
              all_goals first | exact ((((But.refl w5.heap.size w6).setCell (.inl rfl) _).setCell (.inl rfl) _).setCell (.inl rfl) _).setCell (.inl rfl) _ | exact (((((But.refl w5.heap.size w6).setCell (.inl rfl) _).setCell (.inl rfl) _).setCell (.inl rfl) _).setCell (.inl rfl) _).drew | skip
              all_goals
               have e1 : (s.narrowed ⟨c, d, sr, true, o, nn⟩ ⟨pl, ph⟩ ⟨ql, qh⟩) = { s with regs := upd (upd s.regs d ⟨(s.regs d).kind, ⟨pl, ph⟩⟩) sr ⟨(s.regs sr).kind, ⟨ql, qh⟩⟩ } := by
                unfold VS.narrowed
                rw [if_pos rfl, if_neg (by simp only; omega)]
                simp only [Int.toNat_natCast]
                congr 1
                funext j
                unfold upd
                by_cases h1 : j = d
                ·subst h1; simp [show ¬ j = sr from by omega]
                ·simp [h1]
               have K1 := (((HU.out).set (j := d * 3 + 1) (by omega) (rwcell ⟨((s).regs d).kind, ⟨pl, ph⟩⟩ 1)).set (j := d * 3 + 2) (by omega) (rwcell ⟨((s).regs d).kind, ⟨pl, ph⟩⟩ 2)).congr (simg_setat (s := s) dN ⟨pl, ph⟩ (fun _ => rfl))
               have K2 := (((K1).set (j := sr * 3 + 1) (by omega) (rwcell ⟨((({ s with regs := upd s.regs d ⟨(s.regs d).kind, ⟨pl, ph⟩⟩ } : VS)).regs sr).kind, ⟨ql, qh⟩⟩ 1)).set (j := sr * 3 + 2) (by omega) (rwcell ⟨((({ s with regs := upd s.regs d ⟨(s.regs d).kind, ⟨pl, ph⟩⟩ } : VS)).regs sr).kind, ⟨ql, qh⟩⟩ 2)).congr (simg_setat (s := ({ s with regs := upd s.regs d ⟨(s.regs d).kind, ⟨pl, ph⟩⟩ } : VS)) sN ⟨ql, qh⟩ (fun _ => rfl))
               have e2 : upd s.regs d ⟨(s.regs d).kind, ⟨pl, ph⟩⟩ sr = s.regs sr := upd_other (by omega)
               simp only [e2] at K2
               rw [e1]
               first | exact K2 | exact K2.drew
            case rest =>
             obtain ⟨rfl, U7, BU⟩ := hcut
             obtain ⟨w7, hw7⟩ : ∃ x, x = wc := ⟨_, rfl⟩; subst hw7
             clear d1' d2 g1' g2' l1' l2 m1' m2' m11 m12 m21 m22 n11 n12 n21 n22
             have HU7 := Lib.hid U7
             clear U7
             have HL7 := Lib.hid (HL6.out.but BU (by omega) (by omega) nrowU)
             have HIS7 := Lib.hid (BU.img HIS6.out (by omega) (by omega))
             have HIY7 := Lib.hid (BU.img HIY6.out (by omega) (by omega))
             have HIF7 := Lib.hid (BU.img HIF6.out (by omega) (by omega))
             have HIT7 := Lib.hid (BU.img HIT6.out (by omega) (by omega))
             have HIA7 := Lib.hid (BU.img HIA6.out (by omega) (by omega))
             have HIQ7 := Lib.hid (BU.img HIQ6.out (by omega) (by omega))
             have z7 : w6.heap.size ≤ w7.heap.size := BU.size
             have HVS : Hid (VSOk (s.narrowed ⟨c, d, sr, true, o, nn⟩ ⟨pl, ph⟩ ⟨ql, qh⟩)) := HS.out.narrowed _ HBo.out.1 HBo.out.2
             clear BU f0 f1 f2 f3 f4 f5 p0 p1 q0 q1 HU HL6 HIS6 HIY6 HIF6 HIT6 HIA6 HIQ6
             generalize hNS : (s.narrowed ⟨c, d, sr, true, o, nn⟩ ⟨pl, ph⟩ ⟨ql, qh⟩) = ns at *
             have HNS := Lib.hid hNS
             clear hNS
             obtain ⟨f0, f1, f2, f3, f4, f5⟩ := tcells HIT7.out
             simp only at f0 f1 f2 f3 f4 f5
             have HG7 := Lib.hid (HG.out.under ((HL3.out.trans HL7.out).below HL.out) hgb)
             have HC7 := Lib.hid (HC.out.under ((HL3.out.trans HL7.out).below HL.out) hab)
             go_wp2_with (first | (with_reducible refine vl_load (by simp [go_sem]; done) 102 (.tmp 16) rfl w5.heap.size 0 (by simp [go_sem]; done) (scells rwcell ns) _ (Img.scells HU7.out) Tryd.underlying102 rfl (rsize _) ?_))
             rw [show ((pc : Int) + 1 + (o : Int)) = ((pc + 1 + o : Nat) : Int) by push_cast; rfl]
             have HKP := Lib.hid (vwalk_keeps HP.out f ns ((pc + 1 + o : Nat) : Int) k' HVS.out (by omega) (by have := HN2.out; exact_mod_cast this) (by push_cast; omega))
             have HLK := Lib.hid (vwalk_looks (S := S) f ns ((pc + 1 + o : Nat) : Int) k' hk1')
             have HEL := Lib.hid (vwalk_ends (S := S) f ns ((pc + 1 + o : Nat) : Int) k' hkl')
             have HK2' : Hid (K 2 = vwalk S f ns ((pc + 1 + o : Nat) : Int) k') := by show K 2 = _; rw [HK2.out, HXS.out, ← HKK.out]; rfl
             refine (HIH.out ns (pc + 1 + o) k' v' w7 HVS.out HN2.out (by omega) hk0' hk1' hkl' HKE'.out HG7.out HC7.out HL7.out.look).mono ?_
             rintro e w8 ⟨v8, rfl, hL8⟩
             have nr7 : ∀ c', w.heap.size ≤ c' → c' < w3.heap.size → v'.ownBlock ≠ some c' := fun c' h1 h2 => HNR.out c' h1 h2
             have nr8 := Lib.hid (show ∀ c', w.heap.size ≤ c' → c' < w3.heap.size → v8.ownBlock ≠ some c' from fun c' h1 h2 => row_ne hL8.row (fun g hg => (HL7.out.look.row hg).2) (by omega) (nr7 c' h1 h2))
             have HIF8 := Lib.hid (hL8.img HIF7.out (by omega) (by omega) (nr7 _ (by omega) (by omega)))
             have r0 : w8.cell? ⟨w.heap.size + 1 + 1, 0, none⟩ = some (.int .i64 0) := HIF8.out.cell 0 (by omega)
             have r1 : w8.cell? ⟨w.heap.size + 1 + 1, 1, none⟩ = some (.int .i64 0) := HIF8.out.cell 1 (by omega)
             have t0 := HIF8.out.free 0 (by omega)
             have t1 := HIF8.out.free 1 (by omega)
             have HL8 := Lib.hid (HL7.out.trans hL8)
             have z8 : w7.heap.size ≤ w8.heap.size := hL8.size
             have zF8 : w.heap.size + 1 + 1 < w8.heap.size := by omega
             clear hL8 nr7 HIF7 f0 f1 f2 f3 f4 f5
             obtain ⟨r8, hr8⟩ : ∃ r8, vwalk S f ns ((pc + 1 + o : Nat) : Int) k' = r8 := ⟨_, rfl⟩
             rw [hr8] at HKP HLK HEL HL8 HK2'
             rw [hr8]
             clear hr8
             obtain ⟨⟨er, epl⟩, k8⟩ := r8
             simp only at HKP HLK HEL HL8 ⊢
             by_cases he : er = 0
             ·subst he
              have hp8 : epl = -1 := HKP.out.place rfl
              have HP8 := Lib.hid hp8
              clear hp8
              go_wp2_with fail
              go_roundw
              case rel =>
               go_light
               refine ⟨2, k8, v8, by omega, by go_num, fun _ => HJ0.out, by rw [HK2'.out], by rw [HK2'.out]; exact HP8.out, by rw [HK2'.out], Int.le_trans hk0' HKP.out.looks, HLK.out (by first | rfl | trivial), HEL.out, HKP.out.ok HKE'.out, nr8.out, ?_⟩
               exact HL8.out.later ((Below.refl _ _).alloc (Nat.le_refl _) _)
              case measure => simp [intOf]
             ·have tn := rbne_yes he
              have HE0 := Lib.hid he
              clear he
              go_wp2_with fail
              refine bodyPost_ret (v := .agg #[.int .i64 er, .int .i64 epl]) ?_ rfl ?_
              ·simp [results, Tryd.results55, go_sem, *]
              ·rw [HKR.out 1 (by omega) HJ0.out (by rw [HK2'.out]; exact HE0.out), HK2'.out]
               refine ⟨v8, rfl, ((HL3.out.trans HL8.out).but (c := w.heap.size + 1 + 1) (((But.refl (w.heap.size + 1 + 1) _).setCell (.inl rfl) _).setCell (.inl rfl) _) (show w.heap.size ≤ w.heap.size + 1 + 1 by omega) (by omega) (nr8.out _ (by omega) (by omega))).later ((Below.refl _ _).alloc (Nat.le_refl _) _)⟩
    ·obtain rfl : j = 2 := by omega
     have hj3 : ¬ (2 : Int) < 2 := by omega
     have h21 : (K 1).1.1 = 0 := HJ20.out rfl
     have HE : Hid (waysOf (vwalk S f) pc k (.go X Y) = ((0, -1), k')) := by
      show waysOf (vwalk S f) pc k (.go X Y) = ((0, -1), k')
      rw [HKE2.out h21, HKK.out]
      have e1 := HJ0.out; have e2 := HJP.out
      generalize K 2 = q at *
      obtain ⟨⟨a1, a2⟩, a3⟩ := q
      simp only at e1 e2
      rw [e1, e2]
     clear h21
     go_wp2_with fail
     refine (Bare_any 0 _).mono ?_
     rintro e w4 ⟨rfl, hb4⟩
     have HIF4 := Lib.hid (HIFr.out.later hb4 (by omega))
     have HL4 := Lib.hid (HLr.out.later hb4)
     have r0 : w4.cell? ⟨w.heap.size + 1 + 1, 0, none⟩ = some (.int .i64 0) := HIF4.out.cell 0 (by omega)
     have r1 : w4.cell? ⟨w.heap.size + 1 + 1, 1, none⟩ = some (.int .i64 0) := HIF4.out.cell 1 (by omega)
     have t0 := HIF4.out.free 0 (by omega)
     have t1 := HIF4.out.free 1 (by omega)
     clear hb4 f0 f1 f2 f3 f4 f5 a0 a1 a2 y0 y1 y2
     go_wp2_with fail
     refine bodyPost_ret (v := .agg #[.int .i64 0, .int .i64 (-1)]) ?_ rfl ?_
     ·simp [results, Tryd.results55, go_sem, *]
     ·rw [HE.out]
      refine ⟨v', rfl, ((HL3.out.trans HL4.out).but (c := w.heap.size + 1 + 1) ?_ (show w.heap.size ≤ w.heap.size + 1 + 1 by omega) (by omega) (HNR.out _ (by omega) (by omega)))⟩
      exact ((But.refl (w.heap.size + 1 + 1) _).setCell (.inl rfl) _).setCell (.inl rfl) _
 rw [if_neg h1] at hR
 by_cases h2 : r = true ∨ nn ≠ 0 ∨ (c ≠ 15 ∧ c ≠ 16)
 ·rw [if_pos h2] at hR
  subst hR
  as_aux_lemma =>
   have q1 := rbeq_no (show letter x.kind ≠ 0 from fun h => h0 (.inl ((letter_0 okx).1 h)))
   have q2 := rbeq_no (show letter y.kind ≠ 0 from fun h => h0 (.inr ((letter_0 oky).1 h)))
   have hn : (letter x.kind == 110) = false ∨ ((letter x.kind == 110) = true ∧ (letter y.kind == 110) = false) := by
    by_cases e : x.kind = 1
    ·exact .inr ⟨rbeq_yes ((letter_1 okx).2 e), rbeq_no (fun h => h1 ⟨e, (letter_1 oky).1 h⟩)⟩
    ·exact .inl (rbeq_no (fun h => e ((letter_1 okx).1 h)))
   have hm : r = true ∨ (r = false ∧ (nn != 0) = true) ∨ (r = false ∧ (nn != 0) = false ∧ (c != 15) = true ∧ (c != 16) = true) := by
    cases r with
    | true => exact .inl rfl
    | false =>
     by_cases e : nn = 0
     ·refine .inr (.inr ⟨rfl, by simp [e], ?_, ?_⟩) <;> (rw [bne_iff_ne]; simp [e] at h2; omega)
     ·exact .inr (.inl ⟨rfl, by rw [bne_iff_ne]; exact e⟩)
   clear h0 h1 h2 okx oky hreg hsec g1 g2 g3 g4 hca
   rcases hn with q3 | ⟨q3, q4⟩
   all_goals
    rcases hm with rfl | ⟨rfl, m1⟩ | ⟨rfl, m1, m2, m3⟩
    all_goals
     go_wp2_with fail
     refine bodyPost_ret (v := .agg #[.int .i64 1, .int .i64 pc]) ?_ rfl ⟨v, rfl, (HL2.out.but (c := w.heap.size + 1 + 1) ?_ (by omega) (by omega) (row_lt HL.out (by omega)))⟩
     ·simp [results, Tryd.results55, go_sem, *]
     ·exact ((But.refl (w.heap.size + 1 + 1) w2).setCell (.inl rfl) _).setCell (.inl rfl) _
 ·rw [if_neg h2] at hR
  as_aux_lemma =>
   have hr : r = false := by cases r <;> simp_all
   subst hr
   have hn0 : nn = 0 := by omega
   subst hn0
   have hy1 : y = Wh.num (bone 0) := HY.out.symm
   subst hy1
   have x1 : x.kind ≠ 1 := fun e => h1 ⟨e, rfl⟩
   have q1 := rbeq_no (show letter x.kind ≠ 0 from fun h => h0 (.inl ((letter_0 okx).1 h)))
   have q3 := rbeq_no (show letter x.kind ≠ 110 from fun h => x1 ((letter_1 okx).1 h))
   have hc2 : c = 15 ∨ c = 16 := by omega
   obtain ⟨ol, oh⟩ := HTT.out.2.1 (.inr (show 15 ≤ c ∧ c ≤ 24 from by omega))
   simp only at ol oh
   obtain ⟨o, rfl⟩ := Int.eq_ofNat_of_zero_le ol
   have s1 : IntKind.i64.wrap ((pc : Int) + 1) = (pc : Int) + 1 := IntWalk.i64_in _ (by omega)
   have s2 : IntKind.i64.wrap ((pc : Int) + 1 + (o : Int)) = (pc : Int) + 1 + (o : Int) := IntWalk.i64_in _ (by omega)
   have HN1 : Hid (pc + 1 < n) := by show pc + 1 < n; omega
   have HN2 : Hid (pc + 1 + o < n) := by show pc + 1 + o < n; omega
   replace y0 : w2.cell? ⟨w.heap.size + 1, 0, none⟩ = some (.int .u8 110) := y0
   clear h0 h1 h2 x1 ol oh
   rcases hc2 with rfl | rfl
   ·have HR2 : Hid ((if x.kind = 5 then VRes.go (some (s.setReg d (.num (bone 0)), ((pc + 1 + o : Nat) : Int))) (some (s.setReg d ⟨4, bone 0⟩, ((pc + 1 : Nat) : Int))) else VRes.go (some (s, ((pc + 1 : Nat) : Int))) none) = R) := hR
    clear hR
    go_upto_region 26 with fail
    have HG0 := Lib.hid HG00.out
    have HC0 := Lib.hid HC00.out
    by_cases k5 : x.kind = 5
    ·have hR2 := HR2.out
     rw [if_pos k5] at hR2
     subst hR2
     have t5 := rbeq_yes ((letter_5 okx).2 k5)
     clear k5
     as_aux_lemma =>
      go_wp2_with fail
      have CO := Lib.hid (show ∀ wd dr os, Calls Tryd.prog 32 #[.int .i64 0] (Go.Sort.grow (redrawn wd dr) os) fun e w' => e = .returned (.agg #[.int .i64 0, .int .i64 0]) ∧ ∃ p : Regrown, w' = Go.Sort.grow (redrawn wd p.d) p.os from fun wd dr os => Calls.regrown_of (RefOne_any 0 _))
      have q1' := cell_regrown f1
      refine wp_below_one 5 (by kernel_rfl) (by kernel_rfl) ?_
      repeat (quiet_step (exact CO.out _ _ _))
      refine wpQuiet_nil ?_
      intro wq hwq
      have hbq : Below w2.heap.size w2 wq := by
       obtain ⟨p, hp⟩ := hwq
       rw [hp]; exact below_regrown _ _ _
      clear hwq q1' CO
      have IQ := HIS2.out.later hbq (by omega)
      obtain ⟨u0, d0⟩ : ∃ u, wq.cell? ⟨w.heap.size, d * 3, none⟩ = some u := ⟨_, IQ.cell (d * 3) (by omega)⟩
      obtain ⟨u1, d1'⟩ : ∃ u, wq.cell? ⟨w.heap.size, d * 3 + 1, none⟩ = some u := ⟨_, IQ.cell (d * 3 + 1) (by omega)⟩
      obtain ⟨u2, d2⟩ : ∃ u, wq.cell? ⟨w.heap.size, d * 3 + 2, none⟩ = some u := ⟨_, IQ.cell (d * 3 + 2) (by omega)⟩
      have g0 := IQ.free (d * 3) (by omega); have g1' := IQ.free (d * 3 + 1) (by omega); have g2' := IQ.free (d * 3 + 2) (by omega)
      have HIQ := Lib.hid IQ
      have HBQ := Lib.hid hbq
      have zq : w2.heap.size ≤ wq.heap.size := hbq.size
      clear IQ hbq
      go_wp2_with fail
      refine NoPanic.normal ?_
      generalize hW : World.setCell (World.setCell (World.setCell wq _ _) _ _) _ _ = w3
      have I5 : P.Img w3 w.heap.size 81 (simg rwcell (s.setReg d (.num (bone 0)))) := by
       rw [← hW]
       have K := (((HIQ.out.set (j := d * 3) (by omega) (rwcell (.num (bone 0)) 0)).set (j := d * 3 + 1) (by omega) (rwcell (.num (bone 0)) 1)).set (j := d * 3 + 2) (by omega) (rwcell (.num (bone 0)) 2)).congr (simg_setreg dN (.num (bone 0)))
       exact K
      have B5 : But w.heap.size wq w3 := hW ▸ (((But.refl w.heap.size wq).setCell (.inl rfl) _).setCell (.inl rfl) _).setCell (.inl rfl) _
      clear hW d0 d1' d2 g0 g1' g2'
      have nrow0 : v.ownBlock ≠ some w.heap.size := row_lt HL.out (by omega)
      have HL3 := Lib.hid ((HL2.out.later HBQ.out).but B5 (by omega) (by omega) (by assumption))
      have HIT3 := Lib.hid (B5.img (HIT2.out.later HBQ.out (by omega)) (by omega) (by omega))
      have HIF3 := Lib.hid (B5.img (HIF2.out.later HBQ.out (by omega)) (by omega) (by omega))
      have HI3 := Lib.hid I5
      have z3 : wq.heap.size ≤ w3.heap.size := B5.size
      obtain ⟨f0, f1, f2, f3, f4, f5⟩ := tcells HIT3.out
      simp only at f0 f1 f2 f3 f4 f5
      have HG3 := Lib.hid (HG0.out.under (HL3.out.below HL.out) hgb)
      have HC3 := Lib.hid (HC0.out.under (HL3.out.below HL.out) hab)
      clear I5 B5 HBQ HIQ r0 r1 t0 t1 a0 a1 a2 y0 y1 y2
      go_wp2_with (first | (with_reducible refine vl_load (by simp [go_sem]; done) 102 (.tmp 5) rfl w.heap.size 0 (by simp [go_sem]; done) (scells rwcell (s.setReg d (.num (bone 0)))) _ (Img.scells HI3.out) Tryd.underlying102 rfl (rsize _) ?_))
      rw [show ((pc : Int) + 1 + (o : Int)) = ((pc + 1 + o : Nat) : Int) by push_cast; rfl]
      refine (HIH.out (s.setReg d (.num (bone 0))) (pc + 1 + o) k v w3 (HS.out.setReg _ (WOk.num (bone_ok in64_0))) HN2.out (by omega) hk0 hk1 hkl HKE.out HG3.out HC3.out HL3.out.look).mono ?_
      rintro e w4 ⟨v4, rfl, hL4⟩
      have nrow : ∀ c', w.heap.size ≤ c' → c' < w3.heap.size → v4.ownBlock ≠ some c' := fun c' h1 h2 => row_ne hL4.row (fun g hg => (HL3.out.look.row hg).2) h2 (row_lt HL.out h1)
      have nrowS := Lib.hid (nrow w.heap.size (by omega) (by omega))
      have NRF := Lib.hid (nrow (w.heap.size + 1 + 1) (by omega) (by omega))
      have HI4 := Lib.hid (hL4.img HI3.out (by omega) (by omega) (row_lt HL.out (by omega)))
      have HIT4 := Lib.hid (hL4.img HIT3.out (by omega) (by omega) (row_lt HL.out (by omega)))
      have HIF4 := Lib.hid (hL4.img HIF3.out (by omega) (by omega) (row_lt HL.out (by omega)))
      have HL4 := Lib.hid (HL3.out.trans hL4)
      have z4 : w3.heap.size ≤ w4.heap.size := hL4.size
      clear hL4 nrow f0 f1 f2 f3 f4 f5
      have HKP := Lib.hid (vwalk_keeps HP.out f (s.setReg d (.num (bone 0))) ((pc + 1 + o : Nat) : Int) k (HS.out.setReg _ (WOk.num (bone_ok in64_0))) (by omega) (by have := HN2.out; exact_mod_cast this) (by push_cast; omega))
      have HLK := Lib.hid (vwalk_looks (S := S) f (s.setReg d (.num (bone 0))) ((pc + 1 + o : Nat) : Int) k hk1)
      have HEL := Lib.hid (vwalk_ends (S := S) f (s.setReg d (.num (bone 0))) ((pc + 1 + o : Nat) : Int) k hkl)
      have HWa := Lib.hid (ways_second (f := vwalk S f) (pc := pc) (s := (s.setReg d (.num (bone 0)))) (n := ((pc + 1 + o : Nat) : Int)) (w := k) (t := (s.setReg d ⟨4, bone 0⟩)) (m := ((pc + 1 : Nat) : Int)))
      have HWb := Lib.hid (ways_first (f := vwalk S f) (pc := pc) (s := (s.setReg d (.num (bone 0)))) (n := ((pc + 1 + o : Nat) : Int)) (w := k) (y := some ((s.setReg d ⟨4, bone 0⟩), ((pc + 1 : Nat) : Int))))
      obtain ⟨r4, hr4⟩ : ∃ r4, vwalk S f (s.setReg d (.num (bone 0))) ((pc + 1 + o : Nat) : Int) k = r4 := ⟨_, rfl⟩
      rw [hr4] at HKP HLK HEL HWa HWb HL4
      rw [hr4]
      clear hr4
      obtain ⟨⟨er, epl⟩, k4⟩ := r4
      simp only at HKP HLK HEL HWa HWb HL4 ⊢
      by_cases he : er = 0
      ·subst he
       have HW2 := Lib.hid (HWa.out rfl)
       clear HWa HWb
       go_upto_region 31 with fail
       generalize hW : World.alloc w4 _ = w5
       have hb5 : Below w4.heap.size w4 w5 := hW ▸ (Below.refl _ _).alloc (Nat.le_refl _) _
       clear hW
       have HI5 := Lib.hid (HI4.out.later hb5 (by omega))
       have HIT5 := Lib.hid (HIT4.out.later hb5 (by omega))
       have HIF5 := Lib.hid (HIF4.out.later hb5 (by omega))
       have HL5 := Lib.hid (HL4.out.later hb5)
       have z5 : w4.heap.size ≤ w5.heap.size := hb5.size
       obtain ⟨f0, f1, f2, f3, f4, f5⟩ := tcells HIT5.out
       simp only at f0 f1 f2 f3 f4 f5
       clear hb5 HI4 HIT4 HIF4 HL4 HI3 HIT3 HIF3 HL3
       have CO := Lib.hid (show ∀ wd dr os, Calls Tryd.prog 32 #[.int .i64 0] (Go.Sort.grow (redrawn wd dr) os) fun e w' => e = .returned (.agg #[.int .i64 0, .int .i64 0]) ∧ ∃ p : Regrown, w' = Go.Sort.grow (redrawn wd p.d) p.os from fun wd dr os => Calls.regrown_of (RefOne_any 0 _))
       have q1' := cell_regrown f1
       refine wp_below_one 5 (by kernel_rfl) (by kernel_rfl) ?_
       repeat (quiet_step (exact CO.out _ _ _))
       refine wpQuiet_nil ?_
       intro wz hwq
       have hbq : Below w5.heap.size w5 wz := by
        obtain ⟨p, hp⟩ := hwq
        rw [hp]; exact below_regrown _ _ _
       clear hwq q1' CO
       have IQ := HI5.out.later hbq (by omega)
       obtain ⟨u0, d0⟩ : ∃ u, wz.cell? ⟨w.heap.size, d * 3, none⟩ = some u := ⟨_, IQ.cell (d * 3) (by omega)⟩
       obtain ⟨u1, d1'⟩ : ∃ u, wz.cell? ⟨w.heap.size, d * 3 + 1, none⟩ = some u := ⟨_, IQ.cell (d * 3 + 1) (by omega)⟩
       obtain ⟨u2, d2⟩ : ∃ u, wz.cell? ⟨w.heap.size, d * 3 + 2, none⟩ = some u := ⟨_, IQ.cell (d * 3 + 2) (by omega)⟩
       have g0 := IQ.free (d * 3) (by omega); have g1' := IQ.free (d * 3 + 1) (by omega); have g2' := IQ.free (d * 3 + 2) (by omega)
       have HIQ := Lib.hid IQ
       have HBQ := Lib.hid hbq
       have zq : w5.heap.size ≤ wz.heap.size := hbq.size
       clear IQ hbq
       go_wp2_with fail
       refine NoPanic.normal ?_
       generalize hW : World.setCell (World.setCell (World.setCell wz _ _) _ _) _ _ = w6
       have I5 : P.Img w6 w.heap.size 81 (simg rwcell (s.setReg d ⟨4, bone 0⟩)) := by
        rw [← hW]
        have K := (((HIQ.out.set (j := d * 3) (by omega) (rwcell ⟨4, bone 0⟩ 0)).set (j := d * 3 + 1) (by omega) (rwcell ⟨4, bone 0⟩ 1)).set (j := d * 3 + 2) (by omega) (rwcell ⟨4, bone 0⟩ 2)).congr (simg_setreg dN ⟨4, bone 0⟩)
        rw [show (s.setReg d ⟨4, bone 0⟩) = { (s.setReg d (.num (bone 0))) with regs := upd (s.setReg d (.num (bone 0))).regs d ⟨4, bone 0⟩ } from by unfold VS.setReg; simp only [Int.toNat_natCast, rupd_upd]]
        exact K
       have B5 : But w.heap.size wz w6 := hW ▸ (((But.refl w.heap.size wz).setCell (.inl rfl) _).setCell (.inl rfl) _).setCell (.inl rfl) _
       clear hW d0 d1' d2 g0 g1' g2'
       have nrow1 : v4.ownBlock ≠ some w.heap.size := nrowS.out
       have HL6 := Lib.hid ((HL5.out.later HBQ.out).but B5 (by omega) (by omega) (by assumption))
       have HIT6 := Lib.hid (B5.img (HIT5.out.later HBQ.out (by omega)) (by omega) (by omega))
       have HIF6 := Lib.hid (B5.img (HIF5.out.later HBQ.out (by omega)) (by omega) (by omega))
       have HI6 := Lib.hid I5
       have z6 : wz.heap.size ≤ w6.heap.size := B5.size
       have HIFz := Lib.hid HIF6.out
       have zF6 : w.heap.size + 1 + 1 < w6.heap.size := HIF6.out.lt (by omega)
       clear I5 B5 HBQ HIQ HI5 HIT5 HIF5 HL5 f0 f1 f2 f3 f4 f5 nrow1
       go_wp2_with (first | (with_reducible refine vl_load (by simp [go_sem]; done) 102 (.tmp 5) rfl w.heap.size 0 (by simp [go_sem]; done) (scells rwcell (s.setReg d ⟨4, bone 0⟩)) _ (Img.scells HI6.out) Tryd.underlying102 rfl (rsize _) ?_))
       rw [show ((pc : Int) + 1) = ((pc + 1 : Nat) : Int) by push_cast; rfl]
       have HG6 := Lib.hid (HG0.out.under (HL6.out.below HL.out) hgb)
       have HC6 := Lib.hid (HC0.out.under (HL6.out.below HL.out) hab)
       refine (HIH.out (s.setReg d ⟨4, bone 0⟩) (pc + 1) k4 v4 w6 (HS.out.setReg _ ⟨by simp, bone_ok in64_0⟩) HN1.out (by omega) (Int.le_trans hk0 HKP.out.looks) (HLK.out (by first | rfl | trivial)) HEL.out (HKP.out.ok HKE.out) HG6.out HC6.out HL6.out.look).mono ?_
       rintro e w9 ⟨v9, rfl, hL9⟩
       have nrF : v4.ownBlock ≠ some (w.heap.size + 1 + 1) := NRF.out
       have nr9 : v9.ownBlock ≠ some (w.heap.size + 1 + 1) := row_ne hL9.row (fun g hg => (HL6.out.look.row hg).2) (by omega) nrF
       have IF9 := hL9.img HIFz.out (by omega) (by omega) nrF
       have r0 : w9.cell? ⟨w.heap.size + 1 + 1, 0, none⟩ = some (.int .i64 0) := IF9.cell 0 (by omega)
       have r1 : w9.cell? ⟨w.heap.size + 1 + 1, 1, none⟩ = some (.int .i64 0) := IF9.cell 1 (by omega)
       have t0 := IF9.free 0 (by omega)
       have t1 := IF9.free 1 (by omega)
       have zF9 : w.heap.size + 1 + 1 < w9.heap.size := IF9.lt (by omega)
       have HL9 := Lib.hid (HL6.out.trans hL9)
       have NR9 := Lib.hid nr9
       clear hL9 nr9 IF9 nrF
       obtain ⟨⟨⟨er9, pl9⟩, k9⟩, hr9⟩ : ∃ r9, vwalk S f (s.setReg d ⟨4, bone 0⟩) ((pc + 1 : Nat) : Int) k4 = r9 := ⟨_, rfl⟩
       rw [hr9] at HL9
       have HR9 := Lib.hid hr9
       rw [hr9]
       simp only at HL9 ⊢
       clear hr9
       go_wp2_with fail
       refine bodyPost_ret (v := .agg #[.int .i64 er9, .int .i64 pl9]) ?_ rfl ?_
       ·simp [results, Tryd.results55, go_sem, *]
       ·rw [HW2.out, HR9.out]
        refine ⟨v9, rfl, HL9.out.but (c := w.heap.size + 1 + 1) ?_ (by omega) (by omega) NR9.out⟩
        exact ((But.refl (w.heap.size + 1 + 1) _).setCell (.inl rfl) _).setCell (.inl rfl) _
      ·have tn := rbne_yes he
       have HE0 := Lib.hid he
       have HW2 := Lib.hid (HWb.out he)
       clear he HWa HWb
       have r0 : w4.cell? ⟨w.heap.size + 1 + 1, 0, none⟩ = some (.int .i64 0) := HIF4.out.cell 0 (by omega)
       have r1 : w4.cell? ⟨w.heap.size + 1 + 1, 1, none⟩ = some (.int .i64 0) := HIF4.out.cell 1 (by omega)
       have t0 := HIF4.out.free 0 (by omega)
       have t1 := HIF4.out.free 1 (by omega)
       have zF4 : w.heap.size + 1 + 1 < w4.heap.size := HIF4.out.lt (by omega)
       go_wp2_with fail
       refine bodyPost_ret (v := .agg #[.int .i64 er, .int .i64 epl]) ?_ rfl ?_
       ·simp [results, Tryd.results55, go_sem, *]
       ·rw [HW2.out]
        exact ⟨v4, rfl, (HL4.out.but (c := w.heap.size + 1 + 1) (((But.refl (w.heap.size + 1 + 1) _).setCell (.inl rfl) _).setCell (.inl rfl) _) (show w.heap.size ≤ w.heap.size + 1 + 1 by omega) (by omega) NRF.out).later ((Below.refl _ _).alloc (Nat.le_refl _) _)⟩
    ·have hR2 := HR2.out
     rw [if_neg k5] at hR2
     subst hR2
     have t5 := rbeq_no (fun h => k5 ((letter_5 okx).1 h))
     clear k5
     as_aux_lemma =>
      have NRF := Lib.hid (row_lt HL.out (show w.heap.size ≤ w.heap.size + 1 + 1 by omega))
      have HIFz := Lib.hid HIF2.out
      clear r0 r1 t0 t1
      go_wp2_with (first | (with_reducible refine vl_load (by simp [go_sem]; done) 102 (.tmp 5) rfl w.heap.size 0 (by simp [go_sem]; done) (scells rwcell s) _ (Img.scells HIS2.out) Tryd.underlying102 rfl (rsize _) ?_))
      rw [show ((pc : Int) + 1) = ((pc + 1 : Nat) : Int) by push_cast; rfl]
      have HG2 := Lib.hid (HG0.out.under (HL2.out.below HL.out) hgb)
      have HC2 := Lib.hid (HC0.out.under (HL2.out.below HL.out) hab)
      refine (HIH.out s (pc + 1) k v w2 HS.out HN1.out (by omega) hk0 hk1 hkl HKE.out HG2.out HC2.out HL2.out.look).mono ?_
      rintro e w9 ⟨v9, rfl, hL9⟩
      have nrF : v.ownBlock ≠ some (w.heap.size + 1 + 1) := NRF.out
      have nr9 : v9.ownBlock ≠ some (w.heap.size + 1 + 1) := row_ne hL9.row (fun g hg => (HL2.out.look.row hg).2) (by omega) nrF
      have IF9 := hL9.img HIFz.out (by omega) (by omega) nrF
      have r0 : w9.cell? ⟨w.heap.size + 1 + 1, 0, none⟩ = some (.int .i64 0) := IF9.cell 0 (by omega)
      have r1 : w9.cell? ⟨w.heap.size + 1 + 1, 1, none⟩ = some (.int .i64 0) := IF9.cell 1 (by omega)
      have t0 := IF9.free 0 (by omega)
      have t1 := IF9.free 1 (by omega)
      have zF9 : w.heap.size + 1 + 1 < w9.heap.size := IF9.lt (by omega)
      have HL9 := Lib.hid (HL2.out.trans hL9)
      have NR9 := Lib.hid nr9
      clear hL9 nr9 IF9 nrF
      obtain ⟨⟨⟨er9, pl9⟩, k9⟩, hr9⟩ : ∃ r9, vwalk S f s ((pc + 1 : Nat) : Int) k = r9 := ⟨_, rfl⟩
      rw [hr9] at HL9
      have HR9 := Lib.hid hr9
      rw [hr9]
      simp only at HL9 ⊢
      clear hr9
      go_wp2_with fail
      refine bodyPost_ret (v := .agg #[.int .i64 er9, .int .i64 pl9]) ?_ rfl ?_
      ·simp [results, Tryd.results55, go_sem, *]
      ·rw [ways_one (fun h0 => (vwalk_keeps HP.out f s _ k HS.out (by omega) (by have := HN1.out; exact_mod_cast this) (by push_cast; omega)).place h0), HR9.out]
       refine ⟨v9, rfl, HL9.out.but (c := w.heap.size + 1 + 1) ?_ (by omega) (by omega) NR9.out⟩
       exact ((But.refl (w.heap.size + 1 + 1) _).setCell (.inl rfl) _).setCell (.inl rfl) _
   ·have HR2 : Hid ((if x.kind = 5 then VRes.go (some (s.setReg d (.num (bone 0)), ((pc + 1 : Nat) : Int))) (some (s.setReg d ⟨4, bone 0⟩, ((pc + 1 + o : Nat) : Int))) else VRes.go (some (s, ((pc + 1 + o : Nat) : Int))) none) = R) := hR
    clear hR
    go_upto_region 26 with fail
    have HG0 := Lib.hid HG00.out
    have HC0 := Lib.hid HC00.out
    by_cases k5 : x.kind = 5
    ·have hR2 := HR2.out
     rw [if_pos k5] at hR2
     subst hR2
     have t5 := rbeq_yes ((letter_5 okx).2 k5)
     clear k5
     as_aux_lemma =>
      go_wp2_with fail
      have CO := Lib.hid (show ∀ wd dr os, Calls Tryd.prog 32 #[.int .i64 0] (Go.Sort.grow (redrawn wd dr) os) fun e w' => e = .returned (.agg #[.int .i64 0, .int .i64 0]) ∧ ∃ p : Regrown, w' = Go.Sort.grow (redrawn wd p.d) p.os from fun wd dr os => Calls.regrown_of (RefOne_any 0 _))
      have q1' := cell_regrown f1
      refine wp_below_one 5 (by kernel_rfl) (by kernel_rfl) ?_
      repeat (quiet_step (exact CO.out _ _ _))
      refine wpQuiet_nil ?_
      intro wq hwq
      have hbq : Below w2.heap.size w2 wq := by
       obtain ⟨p, hp⟩ := hwq
       rw [hp]; exact below_regrown _ _ _
      clear hwq q1' CO
      have IQ := HIS2.out.later hbq (by omega)
      obtain ⟨u0, d0⟩ : ∃ u, wq.cell? ⟨w.heap.size, d * 3, none⟩ = some u := ⟨_, IQ.cell (d * 3) (by omega)⟩
      obtain ⟨u1, d1'⟩ : ∃ u, wq.cell? ⟨w.heap.size, d * 3 + 1, none⟩ = some u := ⟨_, IQ.cell (d * 3 + 1) (by omega)⟩
      obtain ⟨u2, d2⟩ : ∃ u, wq.cell? ⟨w.heap.size, d * 3 + 2, none⟩ = some u := ⟨_, IQ.cell (d * 3 + 2) (by omega)⟩
      have g0 := IQ.free (d * 3) (by omega); have g1' := IQ.free (d * 3 + 1) (by omega); have g2' := IQ.free (d * 3 + 2) (by omega)
      have HIQ := Lib.hid IQ
      have HBQ := Lib.hid hbq
      have zq : w2.heap.size ≤ wq.heap.size := hbq.size
      clear IQ hbq
      go_wp2_with fail
      refine NoPanic.normal ?_
      generalize hW : World.setCell (World.setCell (World.setCell wq _ _) _ _) _ _ = w3
      have I5 : P.Img w3 w.heap.size 81 (simg rwcell (s.setReg d (.num (bone 0)))) := by
       rw [← hW]
       have K := (((HIQ.out.set (j := d * 3) (by omega) (rwcell (.num (bone 0)) 0)).set (j := d * 3 + 1) (by omega) (rwcell (.num (bone 0)) 1)).set (j := d * 3 + 2) (by omega) (rwcell (.num (bone 0)) 2)).congr (simg_setreg dN (.num (bone 0)))
       exact K
      have B5 : But w.heap.size wq w3 := hW ▸ (((But.refl w.heap.size wq).setCell (.inl rfl) _).setCell (.inl rfl) _).setCell (.inl rfl) _
      clear hW d0 d1' d2 g0 g1' g2'
      have nrow0 : v.ownBlock ≠ some w.heap.size := row_lt HL.out (by omega)
      have HL3 := Lib.hid ((HL2.out.later HBQ.out).but B5 (by omega) (by omega) (by assumption))
      have HIT3 := Lib.hid (B5.img (HIT2.out.later HBQ.out (by omega)) (by omega) (by omega))
      have HIF3 := Lib.hid (B5.img (HIF2.out.later HBQ.out (by omega)) (by omega) (by omega))
      have HI3 := Lib.hid I5
      have z3 : wq.heap.size ≤ w3.heap.size := B5.size
      obtain ⟨f0, f1, f2, f3, f4, f5⟩ := tcells HIT3.out
      simp only at f0 f1 f2 f3 f4 f5
      have HG3 := Lib.hid (HG0.out.under (HL3.out.below HL.out) hgb)
      have HC3 := Lib.hid (HC0.out.under (HL3.out.below HL.out) hab)
      clear I5 B5 HBQ HIQ r0 r1 t0 t1 a0 a1 a2 y0 y1 y2
      go_wp2_with (first | (with_reducible refine vl_load (by simp [go_sem]; done) 102 (.tmp 5) rfl w.heap.size 0 (by simp [go_sem]; done) (scells rwcell (s.setReg d (.num (bone 0)))) _ (Img.scells HI3.out) Tryd.underlying102 rfl (rsize _) ?_))
      rw [show ((pc : Int) + 1) = ((pc + 1 : Nat) : Int) by push_cast; rfl]
      refine (HIH.out (s.setReg d (.num (bone 0))) (pc + 1) k v w3 (HS.out.setReg _ (WOk.num (bone_ok in64_0))) HN1.out (by omega) hk0 hk1 hkl HKE.out HG3.out HC3.out HL3.out.look).mono ?_
      rintro e w4 ⟨v4, rfl, hL4⟩
      have nrow : ∀ c', w.heap.size ≤ c' → c' < w3.heap.size → v4.ownBlock ≠ some c' := fun c' h1 h2 => row_ne hL4.row (fun g hg => (HL3.out.look.row hg).2) h2 (row_lt HL.out h1)
      have nrowS := Lib.hid (nrow w.heap.size (by omega) (by omega))
      have NRF := Lib.hid (nrow (w.heap.size + 1 + 1) (by omega) (by omega))
      have HI4 := Lib.hid (hL4.img HI3.out (by omega) (by omega) (row_lt HL.out (by omega)))
      have HIT4 := Lib.hid (hL4.img HIT3.out (by omega) (by omega) (row_lt HL.out (by omega)))
      have HIF4 := Lib.hid (hL4.img HIF3.out (by omega) (by omega) (row_lt HL.out (by omega)))
      have HL4 := Lib.hid (HL3.out.trans hL4)
      have z4 : w3.heap.size ≤ w4.heap.size := hL4.size
      clear hL4 nrow f0 f1 f2 f3 f4 f5
      have HKP := Lib.hid (vwalk_keeps HP.out f (s.setReg d (.num (bone 0))) ((pc + 1 : Nat) : Int) k (HS.out.setReg _ (WOk.num (bone_ok in64_0))) (by omega) (by have := HN1.out; exact_mod_cast this) (by push_cast; omega))
      have HLK := Lib.hid (vwalk_looks (S := S) f (s.setReg d (.num (bone 0))) ((pc + 1 : Nat) : Int) k hk1)
      have HEL := Lib.hid (vwalk_ends (S := S) f (s.setReg d (.num (bone 0))) ((pc + 1 : Nat) : Int) k hkl)
      have HWa := Lib.hid (ways_second (f := vwalk S f) (pc := pc) (s := (s.setReg d (.num (bone 0)))) (n := ((pc + 1 : Nat) : Int)) (w := k) (t := (s.setReg d ⟨4, bone 0⟩)) (m := ((pc + 1 + o : Nat) : Int)))
      have HWb := Lib.hid (ways_first (f := vwalk S f) (pc := pc) (s := (s.setReg d (.num (bone 0)))) (n := ((pc + 1 : Nat) : Int)) (w := k) (y := some ((s.setReg d ⟨4, bone 0⟩), ((pc + 1 + o : Nat) : Int))))
      obtain ⟨r4, hr4⟩ : ∃ r4, vwalk S f (s.setReg d (.num (bone 0))) ((pc + 1 : Nat) : Int) k = r4 := ⟨_, rfl⟩
      rw [hr4] at HKP HLK HEL HWa HWb HL4
      rw [hr4]
      clear hr4
      obtain ⟨⟨er, epl⟩, k4⟩ := r4
      simp only at HKP HLK HEL HWa HWb HL4 ⊢
      by_cases he : er = 0
      ·subst he
       have HW2 := Lib.hid (HWa.out rfl)
       clear HWa HWb
       go_upto_region 31 with fail
       generalize hW : World.alloc w4 _ = w5
       have hb5 : Below w4.heap.size w4 w5 := hW ▸ (Below.refl _ _).alloc (Nat.le_refl _) _
       clear hW
       have HI5 := Lib.hid (HI4.out.later hb5 (by omega))
       have HIT5 := Lib.hid (HIT4.out.later hb5 (by omega))
       have HIF5 := Lib.hid (HIF4.out.later hb5 (by omega))
       have HL5 := Lib.hid (HL4.out.later hb5)
       have z5 : w4.heap.size ≤ w5.heap.size := hb5.size
       obtain ⟨f0, f1, f2, f3, f4, f5⟩ := tcells HIT5.out
       simp only at f0 f1 f2 f3 f4 f5
       clear hb5 HI4 HIT4 HIF4 HL4 HI3 HIT3 HIF3 HL3
       have CO := Lib.hid (show ∀ wd dr os, Calls Tryd.prog 32 #[.int .i64 0] (Go.Sort.grow (redrawn wd dr) os) fun e w' => e = .returned (.agg #[.int .i64 0, .int .i64 0]) ∧ ∃ p : Regrown, w' = Go.Sort.grow (redrawn wd p.d) p.os from fun wd dr os => Calls.regrown_of (RefOne_any 0 _))
       have q1' := cell_regrown f1
       refine wp_below_one 5 (by kernel_rfl) (by kernel_rfl) ?_
       repeat (quiet_step (exact CO.out _ _ _))
       refine wpQuiet_nil ?_
       intro wz hwq
       have hbq : Below w5.heap.size w5 wz := by
        obtain ⟨p, hp⟩ := hwq
        rw [hp]; exact below_regrown _ _ _
       clear hwq q1' CO
       have IQ := HI5.out.later hbq (by omega)
       obtain ⟨u0, d0⟩ : ∃ u, wz.cell? ⟨w.heap.size, d * 3, none⟩ = some u := ⟨_, IQ.cell (d * 3) (by omega)⟩
       obtain ⟨u1, d1'⟩ : ∃ u, wz.cell? ⟨w.heap.size, d * 3 + 1, none⟩ = some u := ⟨_, IQ.cell (d * 3 + 1) (by omega)⟩
       obtain ⟨u2, d2⟩ : ∃ u, wz.cell? ⟨w.heap.size, d * 3 + 2, none⟩ = some u := ⟨_, IQ.cell (d * 3 + 2) (by omega)⟩
       have g0 := IQ.free (d * 3) (by omega); have g1' := IQ.free (d * 3 + 1) (by omega); have g2' := IQ.free (d * 3 + 2) (by omega)
       have HIQ := Lib.hid IQ
       have HBQ := Lib.hid hbq
       have zq : w5.heap.size ≤ wz.heap.size := hbq.size
       clear IQ hbq
       go_wp2_with fail
       refine NoPanic.normal ?_
       generalize hW : World.setCell (World.setCell (World.setCell wz _ _) _ _) _ _ = w6
       have I5 : P.Img w6 w.heap.size 81 (simg rwcell (s.setReg d ⟨4, bone 0⟩)) := by
        rw [← hW]
        have K := (((HIQ.out.set (j := d * 3) (by omega) (rwcell ⟨4, bone 0⟩ 0)).set (j := d * 3 + 1) (by omega) (rwcell ⟨4, bone 0⟩ 1)).set (j := d * 3 + 2) (by omega) (rwcell ⟨4, bone 0⟩ 2)).congr (simg_setreg dN ⟨4, bone 0⟩)
        rw [show (s.setReg d ⟨4, bone 0⟩) = { (s.setReg d (.num (bone 0))) with regs := upd (s.setReg d (.num (bone 0))).regs d ⟨4, bone 0⟩ } from by unfold VS.setReg; simp only [Int.toNat_natCast, rupd_upd]]
        exact K
       have B5 : But w.heap.size wz w6 := hW ▸ (((But.refl w.heap.size wz).setCell (.inl rfl) _).setCell (.inl rfl) _).setCell (.inl rfl) _
       clear hW d0 d1' d2 g0 g1' g2'
       have nrow1 : v4.ownBlock ≠ some w.heap.size := nrowS.out
       have HL6 := Lib.hid ((HL5.out.later HBQ.out).but B5 (by omega) (by omega) (by assumption))
       have HIT6 := Lib.hid (B5.img (HIT5.out.later HBQ.out (by omega)) (by omega) (by omega))
       have HIF6 := Lib.hid (B5.img (HIF5.out.later HBQ.out (by omega)) (by omega) (by omega))
       have HI6 := Lib.hid I5
       have z6 : wz.heap.size ≤ w6.heap.size := B5.size
       have HIFz := Lib.hid HIF6.out
       have zF6 : w.heap.size + 1 + 1 < w6.heap.size := HIF6.out.lt (by omega)
       clear I5 B5 HBQ HIQ HI5 HIT5 HIF5 HL5 f0 f1 f2 f3 f4 f5 nrow1
       go_wp2_with (first | (with_reducible refine vl_load (by simp [go_sem]; done) 102 (.tmp 5) rfl w.heap.size 0 (by simp [go_sem]; done) (scells rwcell (s.setReg d ⟨4, bone 0⟩)) _ (Img.scells HI6.out) Tryd.underlying102 rfl (rsize _) ?_))
       rw [show ((pc : Int) + 1 + (o : Int)) = ((pc + 1 + o : Nat) : Int) by push_cast; rfl]
       have HG6 := Lib.hid (HG0.out.under (HL6.out.below HL.out) hgb)
       have HC6 := Lib.hid (HC0.out.under (HL6.out.below HL.out) hab)
       refine (HIH.out (s.setReg d ⟨4, bone 0⟩) (pc + 1 + o) k4 v4 w6 (HS.out.setReg _ ⟨by simp, bone_ok in64_0⟩) HN2.out (by omega) (Int.le_trans hk0 HKP.out.looks) (HLK.out (by first | rfl | trivial)) HEL.out (HKP.out.ok HKE.out) HG6.out HC6.out HL6.out.look).mono ?_
       rintro e w9 ⟨v9, rfl, hL9⟩
       have nrF : v4.ownBlock ≠ some (w.heap.size + 1 + 1) := NRF.out
       have nr9 : v9.ownBlock ≠ some (w.heap.size + 1 + 1) := row_ne hL9.row (fun g hg => (HL6.out.look.row hg).2) (by omega) nrF
       have IF9 := hL9.img HIFz.out (by omega) (by omega) nrF
       have r0 : w9.cell? ⟨w.heap.size + 1 + 1, 0, none⟩ = some (.int .i64 0) := IF9.cell 0 (by omega)
       have r1 : w9.cell? ⟨w.heap.size + 1 + 1, 1, none⟩ = some (.int .i64 0) := IF9.cell 1 (by omega)
       have t0 := IF9.free 0 (by omega)
       have t1 := IF9.free 1 (by omega)
       have zF9 : w.heap.size + 1 + 1 < w9.heap.size := IF9.lt (by omega)
       have HL9 := Lib.hid (HL6.out.trans hL9)
       have NR9 := Lib.hid nr9
       clear hL9 nr9 IF9 nrF
       obtain ⟨⟨⟨er9, pl9⟩, k9⟩, hr9⟩ : ∃ r9, vwalk S f (s.setReg d ⟨4, bone 0⟩) ((pc + 1 + o : Nat) : Int) k4 = r9 := ⟨_, rfl⟩
       rw [hr9] at HL9
       have HR9 := Lib.hid hr9
       rw [hr9]
       simp only at HL9 ⊢
       clear hr9
       go_wp2_with fail
       refine bodyPost_ret (v := .agg #[.int .i64 er9, .int .i64 pl9]) ?_ rfl ?_
       ·simp [results, Tryd.results55, go_sem, *]
       ·rw [HW2.out, HR9.out]
        refine ⟨v9, rfl, HL9.out.but (c := w.heap.size + 1 + 1) ?_ (by omega) (by omega) NR9.out⟩
        exact ((But.refl (w.heap.size + 1 + 1) _).setCell (.inl rfl) _).setCell (.inl rfl) _
      ·have tn := rbne_yes he
       have HE0 := Lib.hid he
       have HW2 := Lib.hid (HWb.out he)
       clear he HWa HWb
       have r0 : w4.cell? ⟨w.heap.size + 1 + 1, 0, none⟩ = some (.int .i64 0) := HIF4.out.cell 0 (by omega)
       have r1 : w4.cell? ⟨w.heap.size + 1 + 1, 1, none⟩ = some (.int .i64 0) := HIF4.out.cell 1 (by omega)
       have t0 := HIF4.out.free 0 (by omega)
       have t1 := HIF4.out.free 1 (by omega)
       have zF4 : w.heap.size + 1 + 1 < w4.heap.size := HIF4.out.lt (by omega)
       go_wp2_with fail
       refine bodyPost_ret (v := .agg #[.int .i64 er, .int .i64 epl]) ?_ rfl ?_
       ·simp [results, Tryd.results55, go_sem, *]
       ·rw [HW2.out]
        exact ⟨v4, rfl, (HL4.out.but (c := w.heap.size + 1 + 1) (((But.refl (w.heap.size + 1 + 1) _).setCell (.inl rfl) _).setCell (.inl rfl) _) (show w.heap.size ≤ w.heap.size + 1 + 1 by omega) (by omega) NRF.out).later ((Below.refl _ _).alloc (Nat.le_refl _) _)⟩
    ·have hR2 := HR2.out
     rw [if_neg k5] at hR2
     subst hR2
     have t5 := rbeq_no (fun h => k5 ((letter_5 okx).1 h))
     clear k5
     as_aux_lemma =>
      have NRF := Lib.hid (row_lt HL.out (show w.heap.size ≤ w.heap.size + 1 + 1 by omega))
      have HIFz := Lib.hid HIF2.out
      clear r0 r1 t0 t1
      go_wp2_with (first | (with_reducible refine vl_load (by simp [go_sem]; done) 102 (.tmp 5) rfl w.heap.size 0 (by simp [go_sem]; done) (scells rwcell s) _ (Img.scells HIS2.out) Tryd.underlying102 rfl (rsize _) ?_))
      rw [show ((pc : Int) + 1 + (o : Int)) = ((pc + 1 + o : Nat) : Int) by push_cast; rfl]
      have HG2 := Lib.hid (HG0.out.under (HL2.out.below HL.out) hgb)
      have HC2 := Lib.hid (HC0.out.under (HL2.out.below HL.out) hab)
      refine (HIH.out s (pc + 1 + o) k v w2 HS.out HN2.out (by omega) hk0 hk1 hkl HKE.out HG2.out HC2.out HL2.out.look).mono ?_
      rintro e w9 ⟨v9, rfl, hL9⟩
      have nrF : v.ownBlock ≠ some (w.heap.size + 1 + 1) := NRF.out
      have nr9 : v9.ownBlock ≠ some (w.heap.size + 1 + 1) := row_ne hL9.row (fun g hg => (HL2.out.look.row hg).2) (by omega) nrF
      have IF9 := hL9.img HIFz.out (by omega) (by omega) nrF
      have r0 : w9.cell? ⟨w.heap.size + 1 + 1, 0, none⟩ = some (.int .i64 0) := IF9.cell 0 (by omega)
      have r1 : w9.cell? ⟨w.heap.size + 1 + 1, 1, none⟩ = some (.int .i64 0) := IF9.cell 1 (by omega)
      have t0 := IF9.free 0 (by omega)
      have t1 := IF9.free 1 (by omega)
      have zF9 : w.heap.size + 1 + 1 < w9.heap.size := IF9.lt (by omega)
      have HL9 := Lib.hid (HL2.out.trans hL9)
      have NR9 := Lib.hid nr9
      clear hL9 nr9 IF9 nrF
      obtain ⟨⟨⟨er9, pl9⟩, k9⟩, hr9⟩ : ∃ r9, vwalk S f s ((pc + 1 + o : Nat) : Int) k = r9 := ⟨_, rfl⟩
      rw [hr9] at HL9
      have HR9 := Lib.hid hr9
      rw [hr9]
      simp only at HL9 ⊢
      clear hr9
      go_wp2_with fail
      refine bodyPost_ret (v := .agg #[.int .i64 er9, .int .i64 pl9]) ?_ rfl ?_
      ·simp [results, Tryd.results55, go_sem, *]
      ·rw [ways_one (fun h0 => (vwalk_keeps HP.out f s _ k HS.out (by omega) (by have := HN2.out; exact_mod_cast this) (by push_cast; omega)).place h0), HR9.out]
       refine ⟨v9, rfl, HL9.out.but (c := w.heap.size + 1 + 1) ?_ (by omega) (by omega) NR9.out⟩
       exact ((But.refl (w.heap.size + 1 + 1) _).setCell (.inl rfl) _).setCell (.inl rfl) _
end Go.Proofs.YtfpoicdfkjbknaaDoor.W
