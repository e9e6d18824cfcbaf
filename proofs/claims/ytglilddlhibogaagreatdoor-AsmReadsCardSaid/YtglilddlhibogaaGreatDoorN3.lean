/- A step read out of its words: by contract. Conditions: as for places. -/
import Derived.Test.YtglilddlhibogaaGreatDoorN2
import Derived.Test.YtglilddlhibogaaGreatDoorCalm
import Derived.Test.YtglilddlhibogaaGreatDoorMidQuiet
import Derived.Deep.MidRow
import Derived.Test.YtglilddlhibogaaGreatDoorWalkRef
namespace Go.Proofs.YtglilddlhibogaaGreatDoor.W
open Go.RowKit Go.Proofs.YtglilddlhibogaaGreatDoor.P
set_option linter.unusedSimpArgs false
set_option linter.unusedVariables false
open Go.Sort (grow)

theorem abeq_no' {a b : Int} (h : a ≠ b) : (a == b) = false := by rw [beq_eq_false_iff_ne]; exact h
def nimg (t : Step) : Nat → Value := fun j => if j = 0 then .int .i64 t.code else if j = 1 then .int .i64 t.dst else if j = 2 then .int .i64 t.src else if j = 3 then .bool t.reg else if j = 4 then .int .i64 t.off else .int .i64 t.num
theorem ncells {w : World} {b : Nat} {t : Step} (hI : P.Img w b 6 (nimg t)) : w.cell? ⟨b, 0, none⟩ = some (.int .i64 t.code) ∧ w.cell? ⟨b, 1, none⟩ = some (.int .i64 t.dst) ∧ w.cell? ⟨b, 2, none⟩ = some (.int .i64 t.src) ∧ w.cell? ⟨b, 3, none⟩ = some (.bool t.reg) ∧ w.cell? ⟨b, 4, none⟩ = some (.int .i64 t.off) ∧ w.cell? ⟨b, 5, none⟩ = some (.int .i64 t.num) :=
 ⟨hI.cell 0 (by omega), hI.cell 1 (by omega), hI.cell 2 (by omega), hI.cell 3 (by omega), hI.cell 4 (by omega), hI.cell 5 (by omega)⟩
theorem nimg_at {w : World} {b : Nat} {c d sr : Int} {r : Bool} {o nn : Int} {ty : TypeId} (h : w.heap[b]? = some (.cells #[.int .i64 c, .int .i64 d, .int .i64 sr, .bool r, .int .i64 o, .int .i64 nn] ty (0, 0))) : P.Img w b 6 (nimg ⟨c, d, sr, r, o, nn⟩) := by
 refine Img.of_cells h (by rfl) fun j hj => ?_
 rcases j with _ | _ | _ | _ | _ | _ | j
 ·rfl
 ·rfl
 ·rfl
 ·rfl
 ·rfl
 ·rfl
 ·omega
theorem nimg_congr {t t' : Step} {j : Nat} {v : Value} {I : Nat → Value} (hI : ∀ i, i < 6 → I i = nimg t i) (h : ∀ i, i < 6 → (if i = j then v else nimg t i) = nimg t' i) : ∀ i, i < 6 → P.upd I j v i = nimg t' i := by
 intro i hi
 rw [← h i hi]
 unfold P.upd
 split
 ·rfl
 ·exact hI i hi
def StepIn (t : Step) : Prop := In64 t.code ∧ In64 t.dst ∧ In64 t.src ∧ In64 t.off ∧ In64 t.num
/-- what reading a second operand leaves -/
def SecIs (o : Option (Bool × Int × Int)) (b : Nat) (t : Step) (w : World) (e : Ending) (w' : World) : Prop := ∃ ok t', e = .returned (.bool ok) ∧ P.Img w' b 6 (nimg t') ∧ But b w w' ∧ In64 t'.src ∧ In64 t'.num ∧ t'.code = t.code ∧ t'.dst = t.dst ∧ t'.off = t.off ∧
 (ok = true → o = some (t'.reg, t'.src, t'.num)) ∧ (ok = false → o = none)

set_option maxRecDepth 100000 in
set_option maxHeartbeats 4000000 in
theorem NSecond_any (s : List UInt8) (hs : s.length ≤ 100000) (b : Nat) (c d o : Int) (w : World) (h : RTabs w) (hI : P.Img w b 6 (nimg ⟨c, d, 0, false, o, 0⟩)) : Calls Tryz.prog 70 #[.pointer (some ⟨b, 0, none⟩), .string (bs s)] w (SecIs (rsec s) b ⟨c, d, 0, false, o, 0⟩ w) := by
 have H := Lib.hid h
 have HI := Lib.hid hI
 have zb := hI.lt (by omega)
 clear h hI
 go_enter Tryz.func70, Tryz.ntmps70
 go_wp2_with fail
 refine (NNumber_any s hs _ H.out).mono ?_
 rintro e w1 ⟨⟨m, bn, rfl, hm, hv⟩, hb⟩
 have I1 := HI.out.later hb zb
 have HB := Lib.hid hb
 have HM := Lib.hid hm
 have HV := Lib.hid hv
 have HI1 := Lib.hid I1
 clear hb hm hv
 cases bn with
 | true =>
  have f5 := I1.cell 5 (by omega); have q5 := I1.free 5 (by omega)
  clear I1
  go_wp2_with fail
  go_ret
  refine ⟨true, ⟨c, d, 0, false, o, m⟩, rfl, (HI1.out.set (j := 5) (by omega) (.int .i64 m)).congr (nimg_congr (fun _ _ => rfl) fun i hi => ?_), (But.of (b := b) HB.out).setCell (p := ⟨b, 5, none⟩) (.inl rfl) _, in64_0', HM.out, rfl, rfl, rfl, fun _ => ?_, fun h => by cases h⟩
  ·rcases i with _ | _ | _ | _ | _ | _ | i
   all_goals first | rfl | omega
  ·unfold rsec; rw [HV.out]; rfl
 | false =>
  go_wp2_with fail
  refine (NRegister_any s hs _ (H.out.later HB.out)).mono ?_
  rintro e w2 ⟨⟨r, br, rfl, hr, hrv⟩, hb⟩
  have I2 := HI1.out.later hb (HI1.out.lt (by omega))
  have HB2 := Lib.hid (HB.out.trans (hb.mono HB.out.size))
  have HR := Lib.hid hr
  have HRV := Lib.hid hrv
  have HI2 := Lib.hid I2
  have f2 := I2.cell 2 (by omega); have q2 := I2.free 2 (by omega)
  have f3 := I2.cell 3 (by omega); have q3 := I2.free 3 (by omega)
  clear hb hr hrv I1 I2
  go_wp2_with fail
  go_ret
  refine ⟨br, ⟨c, d, r, true, o, 0⟩, rfl, ((HI2.out.set (j := 2) (by omega) (.int .i64 r)).set (j := 3) (by omega) (.bool true)).congr (nimg_congr (t := ⟨c, d, r, false, o, 0⟩) (nimg_congr (fun _ _ => rfl) fun i hi => ?_) fun i hi => ?_), ((But.of (b := b) HB2.out).setCell (p := ⟨b, 2, none⟩) (.inl rfl) _).setCell (p := ⟨b, 3, none⟩) (.inl rfl) _, HR.out, in64_0', rfl, rfl, rfl, fun h => ?_, fun h => ?_⟩
  ·rcases i with _ | _ | _ | _ | _ | _ | i
   all_goals first | rfl | omega
  ·rcases i with _ | _ | _ | _ | _ | _ | i
   all_goals first | rfl | omega
  ·unfold rsec; rw [HV.out, HRV.out, h]; rfl
  ·unfold rsec; rw [HV.out, HRV.out, h]; rfl
/-- what reading a step leaves -/
def StepIs (o : Option Step) (w : World) (e : Ending) (w' : World) : Prop := (∃ (t : Step) (b : Bool), e = .returned (.tuple #[.agg #[.int .i64 t.code, .int .i64 t.dst, .int .i64 t.src, .bool t.reg, .int .i64 t.off, .int .i64 t.num], .bool b]) ∧ StepIn t ∧ o = if b = true then some t else none) ∧ Below w.heap.size w w'
structure OneF (w w' : World) (v : Value) (m : Nat) (t : Step) : Prop where
 box : w'.cell? ⟨w.heap.size, 0, none⟩ = some v
 res : P.Img w' (w.heap.size + 1) 6 (nimg ⟨0, 0, 0, false, 0, 0⟩)
 img : P.Img w' m 6 (nimg t)
 below : Below w.heap.size w w'
 lt : w.heap.size + 1 < m
theorem OneF.later {w w' w'' : World} {v : Value} {m : Nat} {t : Step} (h : OneF w w' v m t) (hb : Below w'.heap.size w' w'') : OneF w w'' v m t :=
 ⟨(hb.cell (p := ⟨w.heap.size, 0, none⟩) (block_lt_of_cell h.box)).trans h.box, h.res.later hb (h.res.lt (by omega)), h.img.later hb (h.img.lt (by omega)), h.below.trans (hb.mono h.below.size), h.lt⟩
theorem OneF.put {w w' w'' : World} {v : Value} {m : Nat} {t t' : Step} (h : OneF w w' v m t) (hb : But m w' w'') (hi : P.Img w'' m 6 (nimg t')) : OneF w w'' v m t' :=
 ⟨hb.cell h.box (by have := h.lt; simp only; omega), hb.img h.res (by omega) (by have := h.lt; omega), hi, h.below.trans ((hb.below (Nat.le_of_lt (h.img.lt (by omega)))).mono (by have := h.lt; omega)), h.lt⟩
theorem OneF.set {w w' : World} {v : Value} {m : Nat} {t t' : Step} (h : OneF w w' v m t) (j : Nat) (hj : j < 6) (u : Value) (he : ∀ i, i < 6 → (if i = j then u else nimg t i) = nimg t' i) : OneF w (w'.setCell ⟨m, j, none⟩ u) v m t' :=
 h.put ((But.refl m w').setCell (p := ⟨m, j, none⟩) (.inl rfl) u) ((h.img.set hj u).congr (nimg_congr (fun _ _ => rfl) he))
theorem nput6 {w : World} {b : Nat} {t0 : Step} (h : P.Img w b 6 (nimg t0)) (t : Step) : P.Img ((((((w.setCell ⟨b, 0, none⟩ (.int .i64 t.code)).setCell ⟨b, 1, none⟩ (.int .i64 t.dst)).setCell ⟨b, 2, none⟩ (.int .i64 t.src)).setCell ⟨b, 3, none⟩ (.bool t.reg)).setCell ⟨b, 4, none⟩ (.int .i64 t.off)).setCell ⟨b, 5, none⟩ (.int .i64 t.num)) b 6 (nimg t) :=
 ((((((h.set (j := 0) (by omega) _).set (j := 1) (by omega) _).set (j := 2) (by omega) _).set (j := 3) (by omega) _).set (j := 4) (by omega) _).set (j := 5) (by omega) _).congr fun j hj => by
  rcases j with _ | _ | _ | _ | _ | _ | j
  all_goals first | rfl | omega
theorem nload {w : World} {b : Nat} {t : Step} (h : P.Img w b 6 (nimg t)) : (loadVar 110 ⟨b, 0, none⟩).run Tryz.prog w = .ok (.agg #[.int .i64 t.code, .int .i64 t.dst, .int .i64 t.src, .bool t.reg, .int .i64 t.off, .int .i64 t.num]) w :=
 run_loadVar_mid w b 0 _ [.int .i64 t.code, .int .i64 t.dst, .int .i64 t.src, .bool t.reg, .int .i64 t.off, .int .i64 t.num] _ (fun j v hv => by
  have hj : j < 6 := by have := (List.getElem?_eq_some_iff.1 hv).1; simpa using this
  rw [Nat.zero_add, h.cell j hj, ← hv]
  rcases j with _ | _ | _ | _ | _ | _ | j
  all_goals first | rfl | omega) Tryz.underlying110 rfl (by kernel_rfl)
theorem OneF.put6 {w w' : World} {v : Value} {m : Nat} {t0 : Step} (h : OneF w w' v m t0) (t : Step) : OneF w ((((((w'.setCell ⟨m, 0, none⟩ (.int .i64 t.code)).setCell ⟨m, 1, none⟩ (.int .i64 t.dst)).setCell ⟨m, 2, none⟩ (.int .i64 t.src)).setCell ⟨m, 3, none⟩ (.bool t.reg)).setCell ⟨m, 4, none⟩ (.int .i64 t.off)).setCell ⟨m, 5, none⟩ (.int .i64 t.num)) v m t :=
 h.put ((((((((But.refl m w').setCell (p := ⟨m, 0, none⟩) (.inl rfl) _).setCell (p := ⟨m, 1, none⟩) (.inl rfl) _).setCell (p := ⟨m, 2, none⟩) (.inl rfl) _).setCell (p := ⟨m, 3, none⟩) (.inl rfl) _).setCell (p := ⟨m, 4, none⟩) (.inl rfl) _).setCell (p := ⟨m, 5, none⟩) (.inl rfl) _))
  (((((((h.img.set (j := 0) (by omega) _).set (j := 1) (by omega) _).set (j := 2) (by omega) _).set (j := 3) (by omega) _).set (j := 4) (by omega) _).set (j := 5) (by omega) _).congr fun j hj => by
   rcases j with _ | _ | _ | _ | _ | _ | j
   all_goals first | rfl | omega)
theorem NCount_any (k : Int) (b : Nat) (a : Option Addr) (L cap : Nat) (w : World) (h : w.cell? ⟨b, 0, none⟩ = some (.slice a L cap)) : Calls Tryz.prog 65 #[.int .i64 k, .pointer (some ⟨b, 0, none⟩)] w fun e w' => e = .returned (.bool (decide ((L : Int) = k))) ∧ w = w' := by
 have zb := block_lt_of_cell h
 go_enter Tryz.func65, Tryz.ntmps65
 go_wp2_with fail
 go_ret
 refine ⟨?_, rfl⟩
 first | rfl | (refine ret_bool ?_; rw [Bool.eq_iff_iff]; simp)
theorem in64_small {n : Int} (h0 : 0 ≤ n) (h : n < 100) : In64 n := by unfold In64; omega

set_option maxRecDepth 100000 in
set_option maxHeartbeats 100000000 in
theorem NOne_any (HX : IdxAny) (g cap : Nat) (x : List UInt8) (r : List (List UInt8)) (hn : r.length ≤ 100000) (hlen : ∀ y ∈ x :: r, y.length ≤ 100000) (w : World) (h : RTabs w) (hc : ∀ (j : Nat) y, (x :: r)[j]? = some y → w.cell? ⟨g, j, none⟩ = some (.string (bs y))) :
  Calls Tryz.prog 39 #[.slice (some ⟨g, 0, none⟩) (r.length + 1) cap] w (StepIs (rone (x :: r)) w) := by
 have HTAB := Lib.hid h
 have HWC := Lib.hid hc
 have HLEN := Lib.hid hlen
 have HIDX := Lib.hid HX
 have x0 := hc 0 x rfl
 have zg := block_lt_of_cell x0
 simp only at zg
 obtain ⟨L, hL⟩ : ∃ L, L = r.length + 1 := ⟨_, rfl⟩
 rw [← hL]
 have HLL := Lib.hid hL
 have L1 : 1 ≤ L := by omega
 have LB : (L : Int) ≤ 100001 := by omega
 have i0 : (0 : Int) < L := by omega
 have i0n : 0 < L := by omega
 obtain ⟨R, hR⟩ : ∃ R, rone (x :: r) = R := ⟨_, rfl⟩
 rw [hR]
 have HR := Lib.hid hR
 clear h hc hlen HX hL hR hn
 go_enter Tryz.func39, Tryz.ntmps39
 go_upto_region 1 with fail
 generalize hW : World.alloc (World.alloc w _) _ = wd
 have f0 : wd.cell? ⟨w.heap.size, 0, none⟩ = some (.slice (some ⟨g, 0, none⟩) L cap) := by rw [← hW]; simp [go_sem]
 have IZ : P.Img wd (w.heap.size + 1) 6 (nimg ⟨0, 0, 0, false, 0, 0⟩) := by rw [← hW]; exact nimg_at (by simpa using heap_alloc_new (World.alloc w _) _)
 have hbd : Below w.heap.size w wd := hW ▸ ((Below.refl _ _).alloc (Nat.le_refl _) _).alloc (by simp) _
 have HBD := Lib.hid hbd
 have HIZ := Lib.hid IZ
 have x0' : wd.cell? ⟨g, 0, none⟩ = some (.string (bs x)) := (hbd.cell (p := ⟨g, 0, none⟩) zg).trans x0
 have zd : w.heap.size + 1 < wd.heap.size := IZ.lt (by omega)
 have HTD := Lib.hid (HTAB.out.later hbd)
 have k0 := cell_regrown f0; have k1 := cell_regrown x0'
 have C1 := Lib.hid (show ∀ dr os, Calls Tryz.prog 64 #[.slice (some ⟨2, 0, none⟩) 29 29, .string (bs x)] (grow (redrawn wd dr) os) fun e w'' => e = .returned (.int .i64 (fidx nms x 0)) ∧ BelowAt (grow (redrawn wd dr) os) w'' from fun dr os => (Tryz.slices_Index_string 2 0 29 29 (nms.map bs) (bs x) _ (by simp [nms]) (by omega) (fun j hj => by
  have hj' : j < 29 := by simpa [nms] using hj
  have := (HTD.out.later (below_regrown wd dr os)).names j hj'
  rw [Nat.zero_add, this]
  unfold nm
  simp [List.getD, hj, List.getElem?_map, show j < nms.length from hj'])).mono fun e w'' ⟨he, hw⟩ => ⟨by rw [he, show (List.take 29 (nms.map bs)) = nms.map bs from List.take_of_length_le (by simp [nms])]; unfold Lib.idxOfS; rw [idx_bs], by rw [hw]; exact Below.refl _ _⟩)
 clear hW IZ hbd x0
 refine wp_calm_tail1 8 7 4 110 (.cells #[.int .i64 0, .int .i64 0, .int .i64 0, .bool false, .int .i64 0, .int .i64 0] 110 (0, 0)) (by kernel_rfl) (by kernel_rfl) (by kernel_rfl) (by kernel_rfl) (by kernel_rfl) (by kernel_rfl) (fun w => by kernel_rfl) ?_
 (repeat (first | refine wpCalm_alloc (by rfl) ?_ | (refine wpCalm_step (by rfl) (fun K hK => ?_); go_simp; first | (refine hK _ ?_; clear hK K) | (apply Exists.intro; refine ⟨fun _ => ?_, hK _ ?_⟩; (exact C1.out _ _); clear hK K))))
 refine wpCalm_nil ?_
 intro m wq hbq hm hzm
 have IM : P.Img wq m 6 (nimg ⟨0, 0, 0, false, 0, 0⟩) := nimg_at hzm
 have FQ : OneF w wq (.slice (some ⟨g, 0, none⟩) L cap) m ⟨0, 0, 0, false, 0, 0⟩ := ⟨(hbq.cell (p := ⟨w.heap.size, 0, none⟩) (by simp only; omega)).trans f0, HIZ.out.later hbq zd, IM, HBD.out.trans (hbq.mono HBD.out.size), by omega⟩
 have HFQ := Lib.hid FQ
 have ml := FQ.lt
 have nm1 : ¬ m = w.heap.size := by omega
 have nm2 : ¬ m = w.heap.size + 1 := by omega
 have nm3 : ¬ w.heap.size = m := by omega
 have nm4 : ¬ w.heap.size + 1 = m := by omega
 have s0 := IM.cell 0 (by omega); have s1 := IM.cell 1 (by omega); have s2 := IM.cell 2 (by omega); have s3 := IM.cell 3 (by omega); have s4 := IM.cell 4 (by omega); have s5 := IM.cell 5 (by omega)
 have p0 := IM.free 0 (by omega); have p1 := IM.free 1 (by omega); have p2 := IM.free 2 (by omega); have p3 := IM.free 3 (by omega); have p4 := IM.free 4 (by omega); have p5 := IM.free 5 (by omega)
 clear f0 x0' k0 k1 C1 HIZ HBD HTD zd hbq hm hzm IM FQ
 obtain ⟨C, hC⟩ : ∃ C, ncode x = C := ⟨_, rfl⟩
 have hCl := ncode_lt x
 rw [hC] at hCl
 have hmx : max (fidx nms x 0) 0 = C := hC
 have HC := Lib.hid hC
 go_upto_region 2 with fail
 generalize hWr : World.setCell (World.setCell (World.setCell (World.setCell (World.setCell (World.setCell wq _ _) _ _) _ _) _ _) _ _) _ _ = wr
 have HF0 : Hid (OneF w wr (.slice (some ⟨g, 0, none⟩) L cap) m ⟨C, 0, 0, false, 0, 0⟩) := by rw [← hWr]; exact HFQ.out.put6 ⟨C, 0, 0, false, 0, 0⟩
 clear hWr s0 s1 s2 s3 s4 s5 p0 p1 p2 p3 p4 p5 HFQ
 obtain ⟨f0, f1, f2, f3, f4, f5⟩ := ncells HF0.out.img
 obtain ⟨r0, r1, r2, r3, r4, r5⟩ := ncells HF0.out.res
 have q0 := HF0.out.img.free 0 (by omega); have q1 := HF0.out.img.free 1 (by omega); have q2 := HF0.out.img.free 2 (by omega); have q3 := HF0.out.img.free 3 (by omega); have q4 := HF0.out.img.free 4 (by omega); have q5 := HF0.out.img.free 5 (by omega)
 have t0 := HF0.out.res.free 0 (by omega); have t1 := HF0.out.res.free 1 (by omega); have t2 := HF0.out.res.free 2 (by omega); have t3 := HF0.out.res.free 3 (by omega); have t4 := HF0.out.res.free 4 (by omega); have t5 := HF0.out.res.free 5 (by omega)
 have b0 := HF0.out.box
 have zm : m < wr.heap.size := HF0.out.img.lt (by omega)
 simp only at f0 f1 f2 f3 f4 f5 r0 r1 r2 r3 r4 r5
 have hR2 : roneAt C r = R := by rw [← HC.out, ← rone_cons]; exact HR.out
 have HR2 := Lib.hid hR2
 have hCI : In64 C := in64_small hCl.1 (by omega)
 have HCI := Lib.hid hCI
 have hcl : C = 0 ∨ C = 28 ∨ C = 27 ∨ C = 14 ∨ C = 13 ∨ (15 ≤ C ∧ C ≤ 24) ∨ C = 25 ∨ C = 26 ∨ (1 ≤ C ∧ C ≤ 12) := by omega
 clear hR2 hCI hmx hC
 rcases hcl with rfl | rfl | rfl | rfl | rfl | hc | rfl | rfl | hc
 ·go_wp2_with (first | (go_at_call 65; refine (NCount_any _ _ _ _ _ _ (by assumption)).mono ?_; rintro e w' ⟨rfl, rfl⟩) | (go_at_call 68; refine (Asks_any _ _).mono ?_; rintro e w' ⟨rfl, rfl⟩; rw [asks_of]))
  have hres' : R = if (false) = true then some (⟨0, 0, 0, false, 0, 0⟩ : Step) else none := by rw [← HR2.out, rone_0]; simp
  refine bodyPost_ret (results_cell_tmp Tryz.results39 (p := ⟨w.heap.size + 1, 0, none⟩) (v := .agg #[.int .i64 (0), .int .i64 (0), .int .i64 (0), .bool (false), .int .i64 (0), .int .i64 (0)]) (u := .bool (false)) (by simp [go_sem]) (by simp [go_sem]) ?_) rfl ?_
  ·refine nload (t := ⟨0, 0, 0, false, 0, 0⟩) (nput6 (t0 := ⟨0, 0, 0, false, 0, 0⟩) ?_ ⟨0, 0, 0, false, 0, 0⟩)
   repeat' (first | with_reducible exact HF0.out.res | with_reducible refine Img.other ?_ ?_ _ | (simp; done) | (simp; omega) | omega)
  ·refine ⟨⟨⟨0, 0, 0, false, 0, 0⟩, false, rfl, ⟨in64_0', in64_0', in64_0', in64_0', in64_0'⟩, hres'⟩, ?_⟩
   repeat' (first | with_reducible exact HF0.out.below | with_reducible refine Below.setCell ?_ ?_ _ | (simp; done) | (simp; omega) | omega)
 ·by_cases hl : L = 1
  ·have hl2 : (L : Int) = 1 := by omega
   go_upto_region 7 with (first | (go_at_call 65; refine (NCount_any _ _ _ _ _ _ (by assumption)).mono ?_; rintro e w' ⟨rfl, rfl⟩) | (go_at_call 68; refine (Asks_any _ _).mono ?_; rintro e w' ⟨rfl, rfl⟩; rw [asks_of]))
   have k0 := cell_regrown f0; have k1 := cell_regrown f1; have k2 := cell_regrown f2; have k3 := cell_regrown f3; have k4 := cell_regrown f4; have k5 := cell_regrown f5; have kb := cell_regrown b0
   have C1 := Lib.hid (show ∀ dr os, Calls Tryz.prog 65 #[.int .i64 1, .pointer (some ⟨w.heap.size, 0, none⟩)] (grow (redrawn wr dr) os) fun e w'' => e = .returned (.bool (decide ((L : Int) = 1))) ∧ ∃ p : Regrown, w'' = grow (redrawn wr p.d) p.os from fun dr os => (NCount_any 1 _ _ _ _ _ (kb dr os)).mono fun e w'' ⟨he, hw⟩ => ⟨he, ⟨⟨dr, os⟩, hw.symm⟩⟩)
   refine wp_below_tail 3 (by kernel_rfl) (by kernel_rfl) ?_
   repeat (quiet_step (first | exact C1.out _ _))
   refine wpQuiet_nil ?_
   intro wz hwz
   have hbz : Below wr.heap.size wr wz := by
    obtain ⟨p, hp⟩ := hwz
    rw [hp]; exact below_regrown _ _ _
   have HF1 := Lib.hid (HF0.out.later hbz)
   clear hwz hbz k0 k1 k2 k3 k4 k5 kb C1
   clear f0 f1 f2 f3 f4 f5 q0 q1 q2 q3 q4 q5 r0 r1 r2 r3 r4 r5 t0 t1 t2 t3 t4 t5 b0 zm
   obtain ⟨f0, f1, f2, f3, f4, f5⟩ := ncells HF1.out.img
   obtain ⟨r0, r1, r2, r3, r4, r5⟩ := ncells HF1.out.res
   have q0 := HF1.out.img.free 0 (by omega); have q1 := HF1.out.img.free 1 (by omega); have q2 := HF1.out.img.free 2 (by omega); have q3 := HF1.out.img.free 3 (by omega); have q4 := HF1.out.img.free 4 (by omega); have q5 := HF1.out.img.free 5 (by omega)
   have t0 := HF1.out.res.free 0 (by omega); have t1 := HF1.out.res.free 1 (by omega); have t2 := HF1.out.res.free 2 (by omega); have t3 := HF1.out.res.free 3 (by omega); have t4 := HF1.out.res.free 4 (by omega); have t5 := HF1.out.res.free 5 (by omega)
   have b0 := HF1.out.box
   have zm : m < wz.heap.size := HF1.out.img.lt (by omega)
   simp only at f0 f1 f2 f3 f4 f5 r0 r1 r2 r3 r4 r5
   go_wp2_with (first | (go_at_call 65; refine (NCount_any _ _ _ _ _ _ (by assumption)).mono ?_; rintro e w' ⟨rfl, rfl⟩) | (go_at_call 68; refine (Asks_any _ _).mono ?_; rintro e w' ⟨rfl, rfl⟩; rw [asks_of]))
   have hres' : R = if (true) = true then some (⟨28, 0, 0, false, 0, 0⟩ : Step) else none := by rw [← HR2.out, rone_28, if_pos (List.length_eq_zero_iff.1 (by have := HLL.out; omega))]; simp
   refine bodyPost_ret (results_cell_tmp Tryz.results39 (p := ⟨w.heap.size + 1, 0, none⟩) (v := .agg #[.int .i64 (28), .int .i64 (0), .int .i64 (0), .bool (false), .int .i64 (0), .int .i64 (0)]) (u := .bool (true)) (by simp [go_sem]) (by simp [go_sem]) ?_) rfl ?_
   ·refine nload (t := ⟨28, 0, 0, false, 0, 0⟩) (nput6 (t0 := ⟨0, 0, 0, false, 0, 0⟩) ?_ ⟨28, 0, 0, false, 0, 0⟩)
    repeat' (first | with_reducible exact HF1.out.res | with_reducible refine Img.other ?_ ?_ _ | (simp; done) | (simp; omega) | omega)
   ·refine ⟨⟨⟨28, 0, 0, false, 0, 0⟩, true, rfl, ⟨HCI.out, in64_0', in64_0', in64_0', in64_0'⟩, hres'⟩, ?_⟩
    repeat' (first | with_reducible exact HF1.out.below | with_reducible refine Below.setCell ?_ ?_ _ | (simp; done) | (simp; omega) | omega)
  ·have hl2 : ¬ (L : Int) = 1 := by omega
   go_upto_region 7 with (first | (go_at_call 65; refine (NCount_any _ _ _ _ _ _ (by assumption)).mono ?_; rintro e w' ⟨rfl, rfl⟩) | (go_at_call 68; refine (Asks_any _ _).mono ?_; rintro e w' ⟨rfl, rfl⟩; rw [asks_of]))
   have k0 := cell_regrown f0; have k1 := cell_regrown f1; have k2 := cell_regrown f2; have k3 := cell_regrown f3; have k4 := cell_regrown f4; have k5 := cell_regrown f5; have kb := cell_regrown b0
   have C1 := Lib.hid (show ∀ dr os, Calls Tryz.prog 65 #[.int .i64 1, .pointer (some ⟨w.heap.size, 0, none⟩)] (grow (redrawn wr dr) os) fun e w'' => e = .returned (.bool (decide ((L : Int) = 1))) ∧ ∃ p : Regrown, w'' = grow (redrawn wr p.d) p.os from fun dr os => (NCount_any 1 _ _ _ _ _ (kb dr os)).mono fun e w'' ⟨he, hw⟩ => ⟨he, ⟨⟨dr, os⟩, hw.symm⟩⟩)
   refine wp_below_tail 3 (by kernel_rfl) (by kernel_rfl) ?_
   repeat (quiet_step (first | exact C1.out _ _))
   refine wpQuiet_nil ?_
   intro wz hwz
   have hbz : Below wr.heap.size wr wz := by
    obtain ⟨p, hp⟩ := hwz
    rw [hp]; exact below_regrown _ _ _
   have HF1 := Lib.hid (HF0.out.later hbz)
   clear hwz hbz k0 k1 k2 k3 k4 k5 kb C1
   clear f0 f1 f2 f3 f4 f5 q0 q1 q2 q3 q4 q5 r0 r1 r2 r3 r4 r5 t0 t1 t2 t3 t4 t5 b0 zm
   obtain ⟨f0, f1, f2, f3, f4, f5⟩ := ncells HF1.out.img
   obtain ⟨r0, r1, r2, r3, r4, r5⟩ := ncells HF1.out.res
   have q0 := HF1.out.img.free 0 (by omega); have q1 := HF1.out.img.free 1 (by omega); have q2 := HF1.out.img.free 2 (by omega); have q3 := HF1.out.img.free 3 (by omega); have q4 := HF1.out.img.free 4 (by omega); have q5 := HF1.out.img.free 5 (by omega)
   have t0 := HF1.out.res.free 0 (by omega); have t1 := HF1.out.res.free 1 (by omega); have t2 := HF1.out.res.free 2 (by omega); have t3 := HF1.out.res.free 3 (by omega); have t4 := HF1.out.res.free 4 (by omega); have t5 := HF1.out.res.free 5 (by omega)
   have b0 := HF1.out.box
   have zm : m < wz.heap.size := HF1.out.img.lt (by omega)
   simp only at f0 f1 f2 f3 f4 f5 r0 r1 r2 r3 r4 r5
   go_wp2_with (first | (go_at_call 65; refine (NCount_any _ _ _ _ _ _ (by assumption)).mono ?_; rintro e w' ⟨rfl, rfl⟩) | (go_at_call 68; refine (Asks_any _ _).mono ?_; rintro e w' ⟨rfl, rfl⟩; rw [asks_of]))
   have hres' : R = if (false) = true then some (⟨28, 0, 0, false, 0, 0⟩ : Step) else none := by rw [← HR2.out, rone_28, if_neg (fun e => hl (by rw [HLL.out, e]; rfl))]; simp
   refine bodyPost_ret (results_cell_tmp Tryz.results39 (p := ⟨w.heap.size + 1, 0, none⟩) (v := .agg #[.int .i64 (28), .int .i64 (0), .int .i64 (0), .bool (false), .int .i64 (0), .int .i64 (0)]) (u := .bool (false)) (by simp [go_sem]) (by simp [go_sem]) ?_) rfl ?_
   ·refine nload (t := ⟨28, 0, 0, false, 0, 0⟩) (nput6 (t0 := ⟨0, 0, 0, false, 0, 0⟩) ?_ ⟨28, 0, 0, false, 0, 0⟩)
    repeat' (first | with_reducible exact HF1.out.res | with_reducible refine Img.other ?_ ?_ _ | (simp; done) | (simp; omega) | omega)
   ·refine ⟨⟨⟨28, 0, 0, false, 0, 0⟩, false, rfl, ⟨HCI.out, in64_0', in64_0', in64_0', in64_0'⟩, hres'⟩, ?_⟩
    repeat' (first | with_reducible exact HF1.out.below | with_reducible refine Below.setCell ?_ ?_ _ | (simp; done) | (simp; omega) | omega)
 ·by_cases hl : L = 2
  ·have hrl : r.length = 1 := by have := HLL.out; omega
   obtain ⟨y, rfl⟩ : ∃ y, r = [y] := by
    rcases r with _ | ⟨y, _ | ⟨z, _ | ⟨u, _ | ⟨u2, r⟩⟩⟩⟩
    ·simp at hrl
    ·exact ⟨y, rfl⟩
    ·simp at hrl
    ·simp at hrl
    ·simp at hrl
   obtain rfl : L = 2 := by have := HLL.out; simpa using this
   have hy1 : y.length ≤ 100000 := HLEN.out y (by simp)
   have x1 : wr.cell? ⟨g, 1, none⟩ = some (.string (bs y)) := (HF0.out.below.cell (p := ⟨g, 1, none⟩) zg).trans (HWC.out 1 y rfl)
   go_upto_region 11 with (first | (go_at_call 65; refine (NCount_any _ _ _ _ _ _ (by assumption)).mono ?_; rintro e w' ⟨rfl, rfl⟩) | (go_at_call 68; refine (Asks_any _ _).mono ?_; rintro e w' ⟨rfl, rfl⟩; rw [asks_of]))
   have kb := cell_regrown b0; have kx := cell_regrown x1
   have C1 := Lib.hid (show ∀ dr os, Calls Tryz.prog 64 #[.slice (some ⟨3, 0, none⟩) 4 4, .string (bs y)] (grow (redrawn wr dr) os) fun e w'' => e = .returned (.int .i64 (fidx cls y 0)) ∧ ∃ p : Regrown, w'' = grow (redrawn wr p.d) p.os from fun dr os => (Tryz.slices_Index_string 3 0 4 4 (cls.map bs) (bs y) _ (by simp [cls]) (by omega) (fun j hj => by
    have hj' : j < 4 := by simpa [cls] using hj
    have := ((HTAB.out.later HF0.out.below).later (below_regrown wr dr os)).calls j hj'
    rw [Nat.zero_add, this]
    unfold cl
    simp [List.getD, hj, List.getElem?_map, show j < cls.length from hj'])).mono fun e w'' ⟨he, hw⟩ => ⟨by rw [he, show (List.take 4 (cls.map bs)) = cls.map bs from List.take_of_length_le (by simp [cls])]; unfold Lib.idxOfS; rw [idx_bs], ⟨⟨dr, os⟩, hw⟩⟩)
   refine wp_below_tail 7 (by kernel_rfl) (by kernel_rfl) ?_
   repeat (quiet_step (first | exact C1.out _ _))
   refine wpQuiet_nil ?_
   intro wz hwz
   have hbz : Below wr.heap.size wr wz := by
    obtain ⟨p, hp⟩ := hwz
    rw [hp]; exact below_regrown _ _ _
   have HF1 := Lib.hid (HF0.out.later hbz)
   have hcc := ccode_lt y
   obtain ⟨D, hD⟩ : ∃ D, ccode y = D := ⟨_, rfl⟩
   have hmy : max (fidx cls y 0) 0 = D := hD
   rw [hD] at hcc
   have HDI := Lib.hid (in64_small hcc.1 (by omega))
   have HDD := Lib.hid hD
   clear hwz hbz kb kx C1 hD hcc
   clear f0 f1 f2 f3 f4 f5 q0 q1 q2 q3 q4 q5 r0 r1 r2 r3 r4 r5 t0 t1 t2 t3 t4 t5 b0 zm
   obtain ⟨f0, f1, f2, f3, f4, f5⟩ := ncells HF1.out.img
   obtain ⟨r0, r1, r2, r3, r4, r5⟩ := ncells HF1.out.res
   have q0 := HF1.out.img.free 0 (by omega); have q1 := HF1.out.img.free 1 (by omega); have q2 := HF1.out.img.free 2 (by omega); have q3 := HF1.out.img.free 3 (by omega); have q4 := HF1.out.img.free 4 (by omega); have q5 := HF1.out.img.free 5 (by omega)
   have t0 := HF1.out.res.free 0 (by omega); have t1 := HF1.out.res.free 1 (by omega); have t2 := HF1.out.res.free 2 (by omega); have t3 := HF1.out.res.free 3 (by omega); have t4 := HF1.out.res.free 4 (by omega); have t5 := HF1.out.res.free 5 (by omega)
   have b0 := HF1.out.box
   have zm : m < wz.heap.size := HF1.out.img.lt (by omega)
   simp only at f0 f1 f2 f3 f4 f5 r0 r1 r2 r3 r4 r5
   go_wp2_with (first | (go_at_call 65; refine (NCount_any _ _ _ _ _ _ (by assumption)).mono ?_; rintro e w' ⟨rfl, rfl⟩) | (go_at_call 68; refine (Asks_any _ _).mono ?_; rintro e w' ⟨rfl, rfl⟩; rw [asks_of]))
   have hres' : R = if (true) = true then some (⟨27, 0, 0, false, 0, D⟩ : Step) else none := by rw [← HR2.out, rone_27, HDD.out]; simp
   refine bodyPost_ret (results_cell_tmp Tryz.results39 (p := ⟨w.heap.size + 1, 0, none⟩) (v := .agg #[.int .i64 (27), .int .i64 (0), .int .i64 (0), .bool (false), .int .i64 (0), .int .i64 (D)]) (u := .bool (true)) (by simp [go_sem]) (by simp [go_sem]) ?_) rfl ?_
   ·refine nload (t := ⟨27, 0, 0, false, 0, D⟩) (nput6 (t0 := ⟨0, 0, 0, false, 0, 0⟩) ?_ ⟨27, 0, 0, false, 0, D⟩)
    repeat' (first | with_reducible exact HF1.out.res | with_reducible refine Img.other ?_ ?_ _ | (simp; done) | (simp; omega) | omega)
   ·refine ⟨⟨⟨27, 0, 0, false, 0, D⟩, true, rfl, ⟨HCI.out, in64_0', in64_0', in64_0', HDI.out⟩, hres'⟩, ?_⟩
    repeat' (first | with_reducible exact HF1.out.below | with_reducible refine Below.setCell ?_ ?_ _ | (simp; done) | (simp; omega) | omega)
  ·have hl' : ¬ (L : Int) = 2 := by omega
   have hres : R = none := by rw [← HR2.out]; exact rone_27_bad (by have := HLL.out; omega)
   go_wp2_with (first | (go_at_call 65; refine (NCount_any _ _ _ _ _ _ (by assumption)).mono ?_; rintro e w' ⟨rfl, rfl⟩) | (go_at_call 68; refine (Asks_any _ _).mono ?_; rintro e w' ⟨rfl, rfl⟩; rw [asks_of]))
   have hres' : R = if (false) = true then some (⟨27, 0, 0, false, 0, 0⟩ : Step) else none := by rw [hres]; simp
   refine bodyPost_ret (results_cell_tmp Tryz.results39 (p := ⟨w.heap.size + 1, 0, none⟩) (v := .agg #[.int .i64 (27), .int .i64 (0), .int .i64 (0), .bool (false), .int .i64 (0), .int .i64 (0)]) (u := .bool (false)) (by simp [go_sem]) (by simp [go_sem]) ?_) rfl ?_
   ·refine nload (t := ⟨27, 0, 0, false, 0, 0⟩) (nput6 (t0 := ⟨0, 0, 0, false, 0, 0⟩) ?_ ⟨27, 0, 0, false, 0, 0⟩)
    repeat' (first | with_reducible exact HF0.out.res | with_reducible refine Img.other ?_ ?_ _ | (simp; done) | (simp; omega) | omega)
   ·refine ⟨⟨⟨27, 0, 0, false, 0, 0⟩, false, rfl, ⟨HCI.out, in64_0', in64_0', in64_0', in64_0'⟩, hres'⟩, ?_⟩
    repeat' (first | with_reducible exact HF0.out.below | with_reducible refine Below.setCell ?_ ?_ _ | (simp; done) | (simp; omega) | omega)
 ·by_cases hl : L = 2
  ·have hrl : r.length = 1 := by have := HLL.out; omega
   obtain ⟨y, rfl⟩ : ∃ y, r = [y] := by
    rcases r with _ | ⟨y, _ | ⟨z, _ | ⟨u, _ | ⟨u2, r⟩⟩⟩⟩
    ·simp at hrl
    ·exact ⟨y, rfl⟩
    ·simp at hrl
    ·simp at hrl
    ·simp at hrl
   obtain rfl : L = 2 := by have := HLL.out; simpa using this
   have hy1 : y.length ≤ 100000 := HLEN.out y (by simp)
   have x1 : wr.cell? ⟨g, 1, none⟩ = some (.string (bs y)) := (HF0.out.below.cell (p := ⟨g, 1, none⟩) zg).trans (HWC.out 1 y rfl)
   go_wp2_with (first | (go_at_call 65; refine (NCount_any _ _ _ _ _ _ (by assumption)).mono ?_; rintro e w' ⟨rfl, rfl⟩) | (go_at_call 68; refine (Asks_any _ _).mono ?_; rintro e w' ⟨rfl, rfl⟩; rw [asks_of]))
   refine (NNumber_any y hy1 _ (HTAB.out.later HF0.out.below)).mono ?_
   rintro e w1 ⟨⟨n1, b1, rfl, hn1, hv1⟩, hb⟩
   have HF1 := Lib.hid (HF0.out.later hb)
   have HN1 := Lib.hid hn1
   have HV1 := Lib.hid hv1
   clear hb hn1 hv1 x1
   clear f0 f1 f2 f3 f4 f5 q0 q1 q2 q3 q4 q5 r0 r1 r2 r3 r4 r5 t0 t1 t2 t3 t4 t5 b0 zm
   obtain ⟨f0, f1, f2, f3, f4, f5⟩ := ncells HF1.out.img
   obtain ⟨r0, r1, r2, r3, r4, r5⟩ := ncells HF1.out.res
   have q0 := HF1.out.img.free 0 (by omega); have q1 := HF1.out.img.free 1 (by omega); have q2 := HF1.out.img.free 2 (by omega); have q3 := HF1.out.img.free 3 (by omega); have q4 := HF1.out.img.free 4 (by omega); have q5 := HF1.out.img.free 5 (by omega)
   have t0 := HF1.out.res.free 0 (by omega); have t1 := HF1.out.res.free 1 (by omega); have t2 := HF1.out.res.free 2 (by omega); have t3 := HF1.out.res.free 3 (by omega); have t4 := HF1.out.res.free 4 (by omega); have t5 := HF1.out.res.free 5 (by omega)
   have b0 := HF1.out.box
   have zm : m < w1.heap.size := HF1.out.img.lt (by omega)
   simp only at f0 f1 f2 f3 f4 f5 r0 r1 r2 r3 r4 r5
   have x1 : w1.cell? ⟨g, 1, none⟩ = some (.string (bs y)) := (HF1.out.below.cell (p := ⟨g, 1, none⟩) zg).trans (HWC.out 1 y rfl)
   go_upto_region 18 with fail
   generalize hWs : World.setCell w1 _ _ = w1s
   have HF1s : Hid (OneF w w1s (.slice (some ⟨g, 0, none⟩) 2 cap) m ⟨14, 0, 0, false, n1, 0⟩) := by
    rw [← hWs]
    exact (HF1.out.set (t' := ⟨14, 0, 0, false, n1, 0⟩) 4 (by omega) _ (fun i hi => by rcases i with _ | _ | _ | _ | _ | _ | i <;> first | rfl | omega))
   clear hWs
   clear f0 f1 f2 f3 f4 f5 q0 q1 q2 q3 q4 q5 r0 r1 r2 r3 r4 r5 t0 t1 t2 t3 t4 t5 b0 zm
   obtain ⟨f0, f1, f2, f3, f4, f5⟩ := ncells HF1s.out.img
   obtain ⟨r0, r1, r2, r3, r4, r5⟩ := ncells HF1s.out.res
   have q0 := HF1s.out.img.free 0 (by omega); have q1 := HF1s.out.img.free 1 (by omega); have q2 := HF1s.out.img.free 2 (by omega); have q3 := HF1s.out.img.free 3 (by omega); have q4 := HF1s.out.img.free 4 (by omega); have q5 := HF1s.out.img.free 5 (by omega)
   have t0 := HF1s.out.res.free 0 (by omega); have t1 := HF1s.out.res.free 1 (by omega); have t2 := HF1s.out.res.free 2 (by omega); have t3 := HF1s.out.res.free 3 (by omega); have t4 := HF1s.out.res.free 4 (by omega); have t5 := HF1s.out.res.free 5 (by omega)
   have b0 := HF1s.out.box
   have zm : m < w1s.heap.size := HF1s.out.img.lt (by omega)
   simp only at f0 f1 f2 f3 f4 f5 r0 r1 r2 r3 r4 r5
   go_wp2_with (first | (go_at_call 65; refine (NCount_any _ _ _ _ _ _ (by assumption)).mono ?_; rintro e w' ⟨rfl, rfl⟩) | (go_at_call 68; refine (Asks_any _ _).mono ?_; rintro e w' ⟨rfl, rfl⟩; rw [asks_of]))
   have hres' : R = if (b1) = true then some (⟨14, 0, 0, false, n1, 0⟩ : Step) else none := by rw [← HR2.out, rone_14, HV1.out]; cases b1 <;> rfl
   refine bodyPost_ret (results_cell_tmp Tryz.results39 (p := ⟨w.heap.size + 1, 0, none⟩) (v := .agg #[.int .i64 (14), .int .i64 (0), .int .i64 (0), .bool (false), .int .i64 (n1), .int .i64 (0)]) (u := .bool (b1)) (by simp [go_sem]) (by simp [go_sem]) ?_) rfl ?_
   ·refine nload (t := ⟨14, 0, 0, false, n1, 0⟩) (nput6 (t0 := ⟨0, 0, 0, false, 0, 0⟩) ?_ ⟨14, 0, 0, false, n1, 0⟩)
    repeat' (first | with_reducible exact HF1s.out.res | with_reducible refine Img.other ?_ ?_ _ | (simp; done) | (simp; omega) | omega)
   ·refine ⟨⟨⟨14, 0, 0, false, n1, 0⟩, b1, rfl, ⟨HCI.out, in64_0', in64_0', HN1.out, in64_0'⟩, hres'⟩, ?_⟩
    repeat' (first | with_reducible exact HF1s.out.below | with_reducible refine Below.setCell ?_ ?_ _ | (simp; done) | (simp; omega) | omega)
  ·have hl' : ¬ (L : Int) = 2 := by omega
   have hres : R = none := by rw [← HR2.out]; exact rone_14_bad (by have := HLL.out; omega)
   go_wp2_with (first | (go_at_call 65; refine (NCount_any _ _ _ _ _ _ (by assumption)).mono ?_; rintro e w' ⟨rfl, rfl⟩) | (go_at_call 68; refine (Asks_any _ _).mono ?_; rintro e w' ⟨rfl, rfl⟩; rw [asks_of]))
   have hres' : R = if (false) = true then some (⟨14, 0, 0, false, 0, 0⟩ : Step) else none := by rw [hres]; simp
   refine bodyPost_ret (results_cell_tmp Tryz.results39 (p := ⟨w.heap.size + 1, 0, none⟩) (v := .agg #[.int .i64 (14), .int .i64 (0), .int .i64 (0), .bool (false), .int .i64 (0), .int .i64 (0)]) (u := .bool (false)) (by simp [go_sem]) (by simp [go_sem]) ?_) rfl ?_
   ·refine nload (t := ⟨14, 0, 0, false, 0, 0⟩) (nput6 (t0 := ⟨0, 0, 0, false, 0, 0⟩) ?_ ⟨14, 0, 0, false, 0, 0⟩)
    repeat' (first | with_reducible exact HF0.out.res | with_reducible refine Img.other ?_ ?_ _ | (simp; done) | (simp; omega) | omega)
   ·refine ⟨⟨⟨14, 0, 0, false, 0, 0⟩, false, rfl, ⟨HCI.out, in64_0', in64_0', in64_0', in64_0'⟩, hres'⟩, ?_⟩
    repeat' (first | with_reducible exact HF0.out.below | with_reducible refine Below.setCell ?_ ?_ _ | (simp; done) | (simp; omega) | omega)
 ·by_cases hl : L = 2
  ·have hrl : r.length = 1 := by have := HLL.out; omega
   obtain ⟨y, rfl⟩ : ∃ y, r = [y] := by
    rcases r with _ | ⟨y, _ | ⟨z, _ | ⟨u, _ | ⟨u2, r⟩⟩⟩⟩
    ·simp at hrl
    ·exact ⟨y, rfl⟩
    ·simp at hrl
    ·simp at hrl
    ·simp at hrl
   obtain rfl : L = 2 := by have := HLL.out; simpa using this
   have hy1 : y.length ≤ 100000 := HLEN.out y (by simp)
   have x1 : wr.cell? ⟨g, 1, none⟩ = some (.string (bs y)) := (HF0.out.below.cell (p := ⟨g, 1, none⟩) zg).trans (HWC.out 1 y rfl)
   go_wp2_with (first | (go_at_call 65; refine (NCount_any _ _ _ _ _ _ (by assumption)).mono ?_; rintro e w' ⟨rfl, rfl⟩) | (go_at_call 68; refine (Asks_any _ _).mono ?_; rintro e w' ⟨rfl, rfl⟩; rw [asks_of]))
   refine (NRegister_any y hy1 _ (HTAB.out.later HF0.out.below)).mono ?_
   rintro e w1 ⟨⟨n1, b1, rfl, hn1, hv1⟩, hb⟩
   have HF1 := Lib.hid (HF0.out.later hb)
   have HN1 := Lib.hid hn1
   have HV1 := Lib.hid hv1
   clear hb hn1 hv1 x1
   clear f0 f1 f2 f3 f4 f5 q0 q1 q2 q3 q4 q5 r0 r1 r2 r3 r4 r5 t0 t1 t2 t3 t4 t5 b0 zm
   obtain ⟨f0, f1, f2, f3, f4, f5⟩ := ncells HF1.out.img
   obtain ⟨r0, r1, r2, r3, r4, r5⟩ := ncells HF1.out.res
   have q0 := HF1.out.img.free 0 (by omega); have q1 := HF1.out.img.free 1 (by omega); have q2 := HF1.out.img.free 2 (by omega); have q3 := HF1.out.img.free 3 (by omega); have q4 := HF1.out.img.free 4 (by omega); have q5 := HF1.out.img.free 5 (by omega)
   have t0 := HF1.out.res.free 0 (by omega); have t1 := HF1.out.res.free 1 (by omega); have t2 := HF1.out.res.free 2 (by omega); have t3 := HF1.out.res.free 3 (by omega); have t4 := HF1.out.res.free 4 (by omega); have t5 := HF1.out.res.free 5 (by omega)
   have b0 := HF1.out.box
   have zm : m < w1.heap.size := HF1.out.img.lt (by omega)
   simp only at f0 f1 f2 f3 f4 f5 r0 r1 r2 r3 r4 r5
   have x1 : w1.cell? ⟨g, 1, none⟩ = some (.string (bs y)) := (HF1.out.below.cell (p := ⟨g, 1, none⟩) zg).trans (HWC.out 1 y rfl)
   go_upto_region 23 with fail
   generalize hWs : World.setCell w1 _ _ = w1s
   have HF1s : Hid (OneF w w1s (.slice (some ⟨g, 0, none⟩) 2 cap) m ⟨13, n1, 0, false, 0, 0⟩) := by
    rw [← hWs]
    exact (HF1.out.set (t' := ⟨13, n1, 0, false, 0, 0⟩) 1 (by omega) _ (fun i hi => by rcases i with _ | _ | _ | _ | _ | _ | i <;> first | rfl | omega))
   clear hWs
   clear f0 f1 f2 f3 f4 f5 q0 q1 q2 q3 q4 q5 r0 r1 r2 r3 r4 r5 t0 t1 t2 t3 t4 t5 b0 zm
   obtain ⟨f0, f1, f2, f3, f4, f5⟩ := ncells HF1s.out.img
   obtain ⟨r0, r1, r2, r3, r4, r5⟩ := ncells HF1s.out.res
   have q0 := HF1s.out.img.free 0 (by omega); have q1 := HF1s.out.img.free 1 (by omega); have q2 := HF1s.out.img.free 2 (by omega); have q3 := HF1s.out.img.free 3 (by omega); have q4 := HF1s.out.img.free 4 (by omega); have q5 := HF1s.out.img.free 5 (by omega)
   have t0 := HF1s.out.res.free 0 (by omega); have t1 := HF1s.out.res.free 1 (by omega); have t2 := HF1s.out.res.free 2 (by omega); have t3 := HF1s.out.res.free 3 (by omega); have t4 := HF1s.out.res.free 4 (by omega); have t5 := HF1s.out.res.free 5 (by omega)
   have b0 := HF1s.out.box
   have zm : m < w1s.heap.size := HF1s.out.img.lt (by omega)
   simp only at f0 f1 f2 f3 f4 f5 r0 r1 r2 r3 r4 r5
   go_wp2_with (first | (go_at_call 65; refine (NCount_any _ _ _ _ _ _ (by assumption)).mono ?_; rintro e w' ⟨rfl, rfl⟩) | (go_at_call 68; refine (Asks_any _ _).mono ?_; rintro e w' ⟨rfl, rfl⟩; rw [asks_of]))
   have hres' : R = if (b1) = true then some (⟨13, n1, 0, false, 0, 0⟩ : Step) else none := by rw [← HR2.out, rone_13, HV1.out]; cases b1 <;> rfl
   refine bodyPost_ret (results_cell_tmp Tryz.results39 (p := ⟨w.heap.size + 1, 0, none⟩) (v := .agg #[.int .i64 (13), .int .i64 (n1), .int .i64 (0), .bool (false), .int .i64 (0), .int .i64 (0)]) (u := .bool (b1)) (by simp [go_sem]) (by simp [go_sem]) ?_) rfl ?_
   ·refine nload (t := ⟨13, n1, 0, false, 0, 0⟩) (nput6 (t0 := ⟨0, 0, 0, false, 0, 0⟩) ?_ ⟨13, n1, 0, false, 0, 0⟩)
    repeat' (first | with_reducible exact HF1s.out.res | with_reducible refine Img.other ?_ ?_ _ | (simp; done) | (simp; omega) | omega)
   ·refine ⟨⟨⟨13, n1, 0, false, 0, 0⟩, b1, rfl, ⟨HCI.out, HN1.out, in64_0', in64_0', in64_0'⟩, hres'⟩, ?_⟩
    repeat' (first | with_reducible exact HF1s.out.below | with_reducible refine Below.setCell ?_ ?_ _ | (simp; done) | (simp; omega) | omega)
  ·have hl' : ¬ (L : Int) = 2 := by omega
   have hres : R = none := by rw [← HR2.out]; exact rone_13_bad (by have := HLL.out; omega)
   go_wp2_with (first | (go_at_call 65; refine (NCount_any _ _ _ _ _ _ (by assumption)).mono ?_; rintro e w' ⟨rfl, rfl⟩) | (go_at_call 68; refine (Asks_any _ _).mono ?_; rintro e w' ⟨rfl, rfl⟩; rw [asks_of]))
   have hres' : R = if (false) = true then some (⟨13, 0, 0, false, 0, 0⟩ : Step) else none := by rw [hres]; simp
   refine bodyPost_ret (results_cell_tmp Tryz.results39 (p := ⟨w.heap.size + 1, 0, none⟩) (v := .agg #[.int .i64 (13), .int .i64 (0), .int .i64 (0), .bool (false), .int .i64 (0), .int .i64 (0)]) (u := .bool (false)) (by simp [go_sem]) (by simp [go_sem]) ?_) rfl ?_
   ·refine nload (t := ⟨13, 0, 0, false, 0, 0⟩) (nput6 (t0 := ⟨0, 0, 0, false, 0, 0⟩) ?_ ⟨13, 0, 0, false, 0, 0⟩)
    repeat' (first | with_reducible exact HF0.out.res | with_reducible refine Img.other ?_ ?_ _ | (simp; done) | (simp; omega) | omega)
   ·refine ⟨⟨⟨13, 0, 0, false, 0, 0⟩, false, rfl, ⟨HCI.out, in64_0', in64_0', in64_0', in64_0'⟩, hres'⟩, ?_⟩
    repeat' (first | with_reducible exact HF0.out.below | with_reducible refine Below.setCell ?_ ?_ _ | (simp; done) | (simp; omega) | omega)
 ·have c0 := abeq_no' (show C ≠ 0 by omega); have c28 := abeq_no' (show C ≠ 28 by omega); have c27 := abeq_no' (show C ≠ 27 by omega); have c14 := abeq_no' (show C ≠ 14 by omega); have c13 := abeq_no' (show C ≠ 13 by omega); have c25 := abeq_no' (show C ≠ 25 by omega); have c26 := abeq_no' (show C ≠ 26 by omega)
  have a15 : 15 ≤ C := hc.1
  have a24 : C ≤ 24 := hc.2
  by_cases hl : L = 4
  ·have hrl : r.length = 3 := by have := HLL.out; omega
   obtain ⟨y, z, u, rfl⟩ : ∃ y z u, r = [y, z, u] := by
    rcases r with _ | ⟨y, _ | ⟨z, _ | ⟨u, _ | ⟨u2, r⟩⟩⟩⟩
    ·simp at hrl
    ·simp at hrl
    ·simp at hrl
    ·exact ⟨y, z, u, rfl⟩
    ·simp at hrl
   obtain rfl : L = 4 := by have := HLL.out; simpa using this
   have hy1 : y.length ≤ 100000 := HLEN.out y (by simp)
   have x1 : wr.cell? ⟨g, 1, none⟩ = some (.string (bs y)) := (HF0.out.below.cell (p := ⟨g, 1, none⟩) zg).trans (HWC.out 1 y rfl)
   have hy2 : z.length ≤ 100000 := HLEN.out z (by simp)
   have x2 : wr.cell? ⟨g, 2, none⟩ = some (.string (bs z)) := (HF0.out.below.cell (p := ⟨g, 2, none⟩) zg).trans (HWC.out 2 z rfl)
   have hy3 : u.length ≤ 100000 := HLEN.out u (by simp)
   have x3 : wr.cell? ⟨g, 3, none⟩ = some (.string (bs u)) := (HF0.out.below.cell (p := ⟨g, 3, none⟩) zg).trans (HWC.out 3 u rfl)
   go_wp2_with (first | (go_at_call 65; refine (NCount_any _ _ _ _ _ _ (by assumption)).mono ?_; rintro e w' ⟨rfl, rfl⟩) | (go_at_call 68; refine (Asks_any _ _).mono ?_; rintro e w' ⟨rfl, rfl⟩; rw [asks_of]))
   refine (NNumber_any u hy3 _ (HTAB.out.later HF0.out.below)).mono ?_
   rintro e w1 ⟨⟨n1, b1, rfl, hn1, hv1⟩, hb⟩
   have HF1 := Lib.hid (HF0.out.later hb)
   have HN1 := Lib.hid hn1
   have HV1 := Lib.hid hv1
   clear hb hn1 hv1 x1 x2 x3
   clear f0 f1 f2 f3 f4 f5 q0 q1 q2 q3 q4 q5 r0 r1 r2 r3 r4 r5 t0 t1 t2 t3 t4 t5 b0 zm
   obtain ⟨f0, f1, f2, f3, f4, f5⟩ := ncells HF1.out.img
   obtain ⟨r0, r1, r2, r3, r4, r5⟩ := ncells HF1.out.res
   have q0 := HF1.out.img.free 0 (by omega); have q1 := HF1.out.img.free 1 (by omega); have q2 := HF1.out.img.free 2 (by omega); have q3 := HF1.out.img.free 3 (by omega); have q4 := HF1.out.img.free 4 (by omega); have q5 := HF1.out.img.free 5 (by omega)
   have t0 := HF1.out.res.free 0 (by omega); have t1 := HF1.out.res.free 1 (by omega); have t2 := HF1.out.res.free 2 (by omega); have t3 := HF1.out.res.free 3 (by omega); have t4 := HF1.out.res.free 4 (by omega); have t5 := HF1.out.res.free 5 (by omega)
   have b0 := HF1.out.box
   have zm : m < w1.heap.size := HF1.out.img.lt (by omega)
   simp only at f0 f1 f2 f3 f4 f5 r0 r1 r2 r3 r4 r5
   have x1 : w1.cell? ⟨g, 1, none⟩ = some (.string (bs y)) := (HF1.out.below.cell (p := ⟨g, 1, none⟩) zg).trans (HWC.out 1 y rfl)
   have x2 : w1.cell? ⟨g, 2, none⟩ = some (.string (bs z)) := (HF1.out.below.cell (p := ⟨g, 2, none⟩) zg).trans (HWC.out 2 z rfl)
   have x3 : w1.cell? ⟨g, 3, none⟩ = some (.string (bs u)) := (HF1.out.below.cell (p := ⟨g, 3, none⟩) zg).trans (HWC.out 3 u rfl)
   go_wp2_with (first | (go_at_call 65; refine (NCount_any _ _ _ _ _ _ (by assumption)).mono ?_; rintro e w' ⟨rfl, rfl⟩) | (go_at_call 68; refine (Asks_any _ _).mono ?_; rintro e w' ⟨rfl, rfl⟩; rw [asks_of]))
   generalize hWs : World.setCell w1 _ _ = w1s
   have HF1s : Hid (OneF w w1s (.slice (some ⟨g, 0, none⟩) 4 cap) m ⟨C, 0, 0, false, n1, 0⟩) := by
    rw [← hWs]
    exact (HF1.out.set (t' := ⟨C, 0, 0, false, n1, 0⟩) 4 (by omega) _ (fun i hi => by rcases i with _ | _ | _ | _ | _ | _ | i <;> first | rfl | omega))
   clear hWs
   refine (NRegister_any y hy1 _ (HTAB.out.later HF1s.out.below)).mono ?_
   rintro e w2 ⟨⟨n2, b2, rfl, hn2, hv2⟩, hb⟩
   have HF2 := Lib.hid (HF1s.out.later hb)
   have HN2 := Lib.hid hn2
   have HV2 := Lib.hid hv2
   clear hb hn2 hv2 x1 x2 x3
   clear f0 f1 f2 f3 f4 f5 q0 q1 q2 q3 q4 q5 r0 r1 r2 r3 r4 r5 t0 t1 t2 t3 t4 t5 b0 zm
   obtain ⟨f0, f1, f2, f3, f4, f5⟩ := ncells HF2.out.img
   obtain ⟨r0, r1, r2, r3, r4, r5⟩ := ncells HF2.out.res
   have q0 := HF2.out.img.free 0 (by omega); have q1 := HF2.out.img.free 1 (by omega); have q2 := HF2.out.img.free 2 (by omega); have q3 := HF2.out.img.free 3 (by omega); have q4 := HF2.out.img.free 4 (by omega); have q5 := HF2.out.img.free 5 (by omega)
   have t0 := HF2.out.res.free 0 (by omega); have t1 := HF2.out.res.free 1 (by omega); have t2 := HF2.out.res.free 2 (by omega); have t3 := HF2.out.res.free 3 (by omega); have t4 := HF2.out.res.free 4 (by omega); have t5 := HF2.out.res.free 5 (by omega)
   have b0 := HF2.out.box
   have zm : m < w2.heap.size := HF2.out.img.lt (by omega)
   simp only at f0 f1 f2 f3 f4 f5 r0 r1 r2 r3 r4 r5
   have x1 : w2.cell? ⟨g, 1, none⟩ = some (.string (bs y)) := (HF2.out.below.cell (p := ⟨g, 1, none⟩) zg).trans (HWC.out 1 y rfl)
   have x2 : w2.cell? ⟨g, 2, none⟩ = some (.string (bs z)) := (HF2.out.below.cell (p := ⟨g, 2, none⟩) zg).trans (HWC.out 2 z rfl)
   have x3 : w2.cell? ⟨g, 3, none⟩ = some (.string (bs u)) := (HF2.out.below.cell (p := ⟨g, 3, none⟩) zg).trans (HWC.out 3 u rfl)
   go_wp2_with (first | (go_at_call 65; refine (NCount_any _ _ _ _ _ _ (by assumption)).mono ?_; rintro e w' ⟨rfl, rfl⟩) | (go_at_call 68; refine (Asks_any _ _).mono ?_; rintro e w' ⟨rfl, rfl⟩; rw [asks_of]))
   generalize hWs : World.setCell w2 _ _ = w2s
   have HF2s : Hid (OneF w w2s (.slice (some ⟨g, 0, none⟩) 4 cap) m ⟨C, n2, 0, false, n1, 0⟩) := by
    rw [← hWs]
    exact (HF2.out.set (t' := ⟨C, n2, 0, false, n1, 0⟩) 1 (by omega) _ (fun i hi => by rcases i with _ | _ | _ | _ | _ | _ | i <;> first | rfl | omega))
   clear hWs
   refine (NSecond_any z hy2 m (C) (n2) (n1) _ (HTAB.out.later HF2s.out.below) HF2s.out.img).mono ?_
   rintro e w3 ⟨ok, ⟨tc, td, ts, tg, tq, tn⟩, rfl, hi, hb, hs, hn, e1, e2, e3, ht, hf⟩
   simp only at e1 e2 e3 hs hn ht hf
   rw [e1, e2, e3] at hi
   clear e1 e2 e3
   have HF3 := Lib.hid (HF2s.out.put hb hi)
   have HSS := Lib.hid hs
   have HSN := Lib.hid hn
   have HT := Lib.hid ht
   have HFA := Lib.hid hf
   clear hb hi hs hn ht hf x1 x2 x3
   clear f0 f1 f2 f3 f4 f5 q0 q1 q2 q3 q4 q5 r0 r1 r2 r3 r4 r5 t0 t1 t2 t3 t4 t5 b0 zm
   obtain ⟨f0, f1, f2, f3, f4, f5⟩ := ncells HF3.out.img
   obtain ⟨r0, r1, r2, r3, r4, r5⟩ := ncells HF3.out.res
   have q0 := HF3.out.img.free 0 (by omega); have q1 := HF3.out.img.free 1 (by omega); have q2 := HF3.out.img.free 2 (by omega); have q3 := HF3.out.img.free 3 (by omega); have q4 := HF3.out.img.free 4 (by omega); have q5 := HF3.out.img.free 5 (by omega)
   have t0 := HF3.out.res.free 0 (by omega); have t1 := HF3.out.res.free 1 (by omega); have t2 := HF3.out.res.free 2 (by omega); have t3 := HF3.out.res.free 3 (by omega); have t4 := HF3.out.res.free 4 (by omega); have t5 := HF3.out.res.free 5 (by omega)
   have b0 := HF3.out.box
   have zm : m < w3.heap.size := HF3.out.img.lt (by omega)
   simp only at f0 f1 f2 f3 f4 f5 r0 r1 r2 r3 r4 r5
   cases ok with
   | false =>
    have hno := HFA.out rfl
    go_wp2_with (first | (go_at_call 65; refine (NCount_any _ _ _ _ _ _ (by assumption)).mono ?_; rintro e w' ⟨rfl, rfl⟩) | (go_at_call 68; refine (Asks_any _ _).mono ?_; rintro e w' ⟨rfl, rfl⟩; rw [asks_of]))
    have hres' : R = if (false) = true then some (⟨C, n2, ts, tg, n1, tn⟩ : Step) else none := by rw [← HR2.out, rone_ask hc, hno, HV2.out, HV1.out]; cases b1 <;> cases b2 <;> rfl
    refine bodyPost_ret (results_cell_tmp Tryz.results39 (p := ⟨w.heap.size + 1, 0, none⟩) (v := .agg #[.int .i64 (C), .int .i64 (n2), .int .i64 (ts), .bool (tg), .int .i64 (n1), .int .i64 (tn)]) (u := .bool (false)) (by simp [go_sem]) (by simp [go_sem]) ?_) rfl ?_
    ·refine nload (t := ⟨C, n2, ts, tg, n1, tn⟩) (nput6 (t0 := ⟨0, 0, 0, false, 0, 0⟩) ?_ ⟨C, n2, ts, tg, n1, tn⟩)
     repeat' (first | with_reducible exact HF3.out.res | with_reducible refine Img.other ?_ ?_ _ | (simp; done) | (simp; omega) | omega)
    ·refine ⟨⟨⟨C, n2, ts, tg, n1, tn⟩, false, rfl, ⟨HCI.out, HN2.out, HSS.out, HN1.out, HSN.out⟩, hres'⟩, ?_⟩
     repeat' (first | with_reducible exact HF3.out.below | with_reducible refine Below.setCell ?_ ?_ _ | (simp; done) | (simp; omega) | omega)
   | true =>
    have hyes := HT.out rfl
    cases b1 with
    | false =>
     go_wp2_with (first | (go_at_call 65; refine (NCount_any _ _ _ _ _ _ (by assumption)).mono ?_; rintro e w' ⟨rfl, rfl⟩) | (go_at_call 68; refine (Asks_any _ _).mono ?_; rintro e w' ⟨rfl, rfl⟩; rw [asks_of]))
     have hres' : R = if (false) = true then some (⟨C, n2, ts, tg, n1, tn⟩ : Step) else none := by rw [← HR2.out, rone_ask hc, HV1.out]; rfl
     refine bodyPost_ret (results_cell_tmp Tryz.results39 (p := ⟨w.heap.size + 1, 0, none⟩) (v := .agg #[.int .i64 (C), .int .i64 (n2), .int .i64 (ts), .bool (tg), .int .i64 (n1), .int .i64 (tn)]) (u := .bool (false)) (by simp [go_sem]) (by simp [go_sem]) ?_) rfl ?_
     ·refine nload (t := ⟨C, n2, ts, tg, n1, tn⟩) (nput6 (t0 := ⟨0, 0, 0, false, 0, 0⟩) ?_ ⟨C, n2, ts, tg, n1, tn⟩)
      repeat' (first | with_reducible exact HF3.out.res | with_reducible refine Img.other ?_ ?_ _ | (simp; done) | (simp; omega) | omega)
     ·refine ⟨⟨⟨C, n2, ts, tg, n1, tn⟩, false, rfl, ⟨HCI.out, HN2.out, HSS.out, HN1.out, HSN.out⟩, hres'⟩, ?_⟩
      repeat' (first | with_reducible exact HF3.out.below | with_reducible refine Below.setCell ?_ ?_ _ | (simp; done) | (simp; omega) | omega)
    | true =>
     go_wp2_with (first | (go_at_call 65; refine (NCount_any _ _ _ _ _ _ (by assumption)).mono ?_; rintro e w' ⟨rfl, rfl⟩) | (go_at_call 68; refine (Asks_any _ _).mono ?_; rintro e w' ⟨rfl, rfl⟩; rw [asks_of]))
     have hres' : R = if (b2) = true then some (⟨C, n2, ts, tg, n1, tn⟩ : Step) else none := by rw [← HR2.out, rone_ask hc, hyes, HV2.out, HV1.out]; cases b2 <;> rfl
     refine bodyPost_ret (results_cell_tmp Tryz.results39 (p := ⟨w.heap.size + 1, 0, none⟩) (v := .agg #[.int .i64 (C), .int .i64 (n2), .int .i64 (ts), .bool (tg), .int .i64 (n1), .int .i64 (tn)]) (u := .bool (b2)) (by simp [go_sem]) (by simp [go_sem]) ?_) rfl ?_
     ·refine nload (t := ⟨C, n2, ts, tg, n1, tn⟩) (nput6 (t0 := ⟨0, 0, 0, false, 0, 0⟩) ?_ ⟨C, n2, ts, tg, n1, tn⟩)
      repeat' (first | with_reducible exact HF3.out.res | with_reducible refine Img.other ?_ ?_ _ | (simp; done) | (simp; omega) | omega)
     ·refine ⟨⟨⟨C, n2, ts, tg, n1, tn⟩, b2, rfl, ⟨HCI.out, HN2.out, HSS.out, HN1.out, HSN.out⟩, hres'⟩, ?_⟩
      repeat' (first | with_reducible exact HF3.out.below | with_reducible refine Below.setCell ?_ ?_ _ | (simp; done) | (simp; omega) | omega)
  ·have hl' : ¬ (L : Int) = 4 := by omega
   have hres : R = none := by rw [← HR2.out]; exact rone_ask_bad hc (by have := HLL.out; omega)
   go_wp2_with (first | (go_at_call 65; refine (NCount_any _ _ _ _ _ _ (by assumption)).mono ?_; rintro e w' ⟨rfl, rfl⟩) | (go_at_call 68; refine (Asks_any _ _).mono ?_; rintro e w' ⟨rfl, rfl⟩; rw [asks_of]))
   have hres' : R = if (false) = true then some (⟨C, 0, 0, false, 0, 0⟩ : Step) else none := by rw [hres]; simp
   refine bodyPost_ret (results_cell_tmp Tryz.results39 (p := ⟨w.heap.size + 1, 0, none⟩) (v := .agg #[.int .i64 (C), .int .i64 (0), .int .i64 (0), .bool (false), .int .i64 (0), .int .i64 (0)]) (u := .bool (false)) (by simp [go_sem]) (by simp [go_sem]) ?_) rfl ?_
   ·refine nload (t := ⟨C, 0, 0, false, 0, 0⟩) (nput6 (t0 := ⟨0, 0, 0, false, 0, 0⟩) ?_ ⟨C, 0, 0, false, 0, 0⟩)
    repeat' (first | with_reducible exact HF0.out.res | with_reducible refine Img.other ?_ ?_ _ | (simp; done) | (simp; omega) | omega)
   ·refine ⟨⟨⟨C, 0, 0, false, 0, 0⟩, false, rfl, ⟨HCI.out, in64_0', in64_0', in64_0', in64_0'⟩, hres'⟩, ?_⟩
    repeat' (first | with_reducible exact HF0.out.below | with_reducible refine Below.setCell ?_ ?_ _ | (simp; done) | (simp; omega) | omega)
 ·by_cases hl : L = 3
  ·have hrl : r.length = 2 := by have := HLL.out; omega
   obtain ⟨y, z, rfl⟩ : ∃ y z, r = [y, z] := by
    rcases r with _ | ⟨y, _ | ⟨z, _ | ⟨u, _ | ⟨u2, r⟩⟩⟩⟩
    ·simp at hrl
    ·simp at hrl
    ·exact ⟨y, z, rfl⟩
    ·simp at hrl
    ·simp at hrl
   obtain rfl : L = 3 := by have := HLL.out; simpa using this
   have hy1 : y.length ≤ 100000 := HLEN.out y (by simp)
   have x1 : wr.cell? ⟨g, 1, none⟩ = some (.string (bs y)) := (HF0.out.below.cell (p := ⟨g, 1, none⟩) zg).trans (HWC.out 1 y rfl)
   have hy2 : z.length ≤ 100000 := HLEN.out z (by simp)
   have x2 : wr.cell? ⟨g, 2, none⟩ = some (.string (bs z)) := (HF0.out.below.cell (p := ⟨g, 2, none⟩) zg).trans (HWC.out 2 z rfl)
   go_wp2_with (first | (go_at_call 65; refine (NCount_any _ _ _ _ _ _ (by assumption)).mono ?_; rintro e w' ⟨rfl, rfl⟩) | (go_at_call 68; refine (Asks_any _ _).mono ?_; rintro e w' ⟨rfl, rfl⟩; rw [asks_of]))
   refine (NRegister_any y hy1 _ (HTAB.out.later HF0.out.below)).mono ?_
   rintro e w1 ⟨⟨n1, b1, rfl, hn1, hv1⟩, hb⟩
   have HF1 := Lib.hid (HF0.out.later hb)
   have HN1 := Lib.hid hn1
   have HV1 := Lib.hid hv1
   clear hb hn1 hv1 x1 x2
   clear f0 f1 f2 f3 f4 f5 q0 q1 q2 q3 q4 q5 r0 r1 r2 r3 r4 r5 t0 t1 t2 t3 t4 t5 b0 zm
   obtain ⟨f0, f1, f2, f3, f4, f5⟩ := ncells HF1.out.img
   obtain ⟨r0, r1, r2, r3, r4, r5⟩ := ncells HF1.out.res
   have q0 := HF1.out.img.free 0 (by omega); have q1 := HF1.out.img.free 1 (by omega); have q2 := HF1.out.img.free 2 (by omega); have q3 := HF1.out.img.free 3 (by omega); have q4 := HF1.out.img.free 4 (by omega); have q5 := HF1.out.img.free 5 (by omega)
   have t0 := HF1.out.res.free 0 (by omega); have t1 := HF1.out.res.free 1 (by omega); have t2 := HF1.out.res.free 2 (by omega); have t3 := HF1.out.res.free 3 (by omega); have t4 := HF1.out.res.free 4 (by omega); have t5 := HF1.out.res.free 5 (by omega)
   have b0 := HF1.out.box
   have zm : m < w1.heap.size := HF1.out.img.lt (by omega)
   simp only at f0 f1 f2 f3 f4 f5 r0 r1 r2 r3 r4 r5
   have x1 : w1.cell? ⟨g, 1, none⟩ = some (.string (bs y)) := (HF1.out.below.cell (p := ⟨g, 1, none⟩) zg).trans (HWC.out 1 y rfl)
   have x2 : w1.cell? ⟨g, 2, none⟩ = some (.string (bs z)) := (HF1.out.below.cell (p := ⟨g, 2, none⟩) zg).trans (HWC.out 2 z rfl)
   go_wp2_with (first | (go_at_call 65; refine (NCount_any _ _ _ _ _ _ (by assumption)).mono ?_; rintro e w' ⟨rfl, rfl⟩) | (go_at_call 68; refine (Asks_any _ _).mono ?_; rintro e w' ⟨rfl, rfl⟩; rw [asks_of]))
   generalize hWs : World.setCell w1 _ _ = w1s
   have HF1s : Hid (OneF w w1s (.slice (some ⟨g, 0, none⟩) 3 cap) m ⟨25, n1, 0, false, 0, 0⟩) := by
    rw [← hWs]
    exact (HF1.out.set (t' := ⟨25, n1, 0, false, 0, 0⟩) 1 (by omega) _ (fun i hi => by rcases i with _ | _ | _ | _ | _ | _ | i <;> first | rfl | omega))
   clear hWs
   refine (NPlaced_any HIDX.out z hy2 _ (HTAB.out.later HF1s.out.below)).mono ?_
   rintro e w2 ⟨⟨n2, o2, b2, rfl, hn2, ho2, hv2⟩, hb⟩
   have HO2 := Lib.hid ho2
   clear ho2
   have HF2 := Lib.hid (HF1s.out.later hb)
   have HN2 := Lib.hid hn2
   have HV2 := Lib.hid hv2
   clear hb hn2 hv2 x1 x2
   clear f0 f1 f2 f3 f4 f5 q0 q1 q2 q3 q4 q5 r0 r1 r2 r3 r4 r5 t0 t1 t2 t3 t4 t5 b0 zm
   obtain ⟨f0, f1, f2, f3, f4, f5⟩ := ncells HF2.out.img
   obtain ⟨r0, r1, r2, r3, r4, r5⟩ := ncells HF2.out.res
   have q0 := HF2.out.img.free 0 (by omega); have q1 := HF2.out.img.free 1 (by omega); have q2 := HF2.out.img.free 2 (by omega); have q3 := HF2.out.img.free 3 (by omega); have q4 := HF2.out.img.free 4 (by omega); have q5 := HF2.out.img.free 5 (by omega)
   have t0 := HF2.out.res.free 0 (by omega); have t1 := HF2.out.res.free 1 (by omega); have t2 := HF2.out.res.free 2 (by omega); have t3 := HF2.out.res.free 3 (by omega); have t4 := HF2.out.res.free 4 (by omega); have t5 := HF2.out.res.free 5 (by omega)
   have b0 := HF2.out.box
   have zm : m < w2.heap.size := HF2.out.img.lt (by omega)
   simp only at f0 f1 f2 f3 f4 f5 r0 r1 r2 r3 r4 r5
   have x1 : w2.cell? ⟨g, 1, none⟩ = some (.string (bs y)) := (HF2.out.below.cell (p := ⟨g, 1, none⟩) zg).trans (HWC.out 1 y rfl)
   have x2 : w2.cell? ⟨g, 2, none⟩ = some (.string (bs z)) := (HF2.out.below.cell (p := ⟨g, 2, none⟩) zg).trans (HWC.out 2 z rfl)
   go_upto_region 37 with fail
   generalize hWs : World.setCell (World.setCell w2 _ _) _ _ = w2s
   have HF2s : Hid (OneF w w2s (.slice (some ⟨g, 0, none⟩) 3 cap) m ⟨25, n1, n2, false, o2, 0⟩) := by
    rw [← hWs]
    exact ((HF2.out.set (t' := ⟨25, n1, n2, false, 0, 0⟩) 2 (by omega) _ (fun i hi => by rcases i with _ | _ | _ | _ | _ | _ | i <;> first | rfl | omega)).set (t' := ⟨25, n1, n2, false, o2, 0⟩) 4 (by omega) _ (fun i hi => by rcases i with _ | _ | _ | _ | _ | _ | i <;> first | rfl | omega))
   clear hWs
   clear f0 f1 f2 f3 f4 f5 q0 q1 q2 q3 q4 q5 r0 r1 r2 r3 r4 r5 t0 t1 t2 t3 t4 t5 b0 zm
   obtain ⟨f0, f1, f2, f3, f4, f5⟩ := ncells HF2s.out.img
   obtain ⟨r0, r1, r2, r3, r4, r5⟩ := ncells HF2s.out.res
   have q0 := HF2s.out.img.free 0 (by omega); have q1 := HF2s.out.img.free 1 (by omega); have q2 := HF2s.out.img.free 2 (by omega); have q3 := HF2s.out.img.free 3 (by omega); have q4 := HF2s.out.img.free 4 (by omega); have q5 := HF2s.out.img.free 5 (by omega)
   have t0 := HF2s.out.res.free 0 (by omega); have t1 := HF2s.out.res.free 1 (by omega); have t2 := HF2s.out.res.free 2 (by omega); have t3 := HF2s.out.res.free 3 (by omega); have t4 := HF2s.out.res.free 4 (by omega); have t5 := HF2s.out.res.free 5 (by omega)
   have b0 := HF2s.out.box
   have zm : m < w2s.heap.size := HF2s.out.img.lt (by omega)
   simp only at f0 f1 f2 f3 f4 f5 r0 r1 r2 r3 r4 r5
   cases b2 with
   | false =>
    go_wp2_with (first | (go_at_call 65; refine (NCount_any _ _ _ _ _ _ (by assumption)).mono ?_; rintro e w' ⟨rfl, rfl⟩) | (go_at_call 68; refine (Asks_any _ _).mono ?_; rintro e w' ⟨rfl, rfl⟩; rw [asks_of]))
    have hres' : R = if (false) = true then some (⟨25, n1, n2, false, o2, 0⟩ : Step) else none := by rw [← HR2.out, rone_25, HV1.out, HV2.out]; cases b1 <;> rfl
    refine bodyPost_ret (results_cell_tmp Tryz.results39 (p := ⟨w.heap.size + 1, 0, none⟩) (v := .agg #[.int .i64 (25), .int .i64 (n1), .int .i64 (n2), .bool (false), .int .i64 (o2), .int .i64 (0)]) (u := .bool (false)) (by simp [go_sem]) (by simp [go_sem]) ?_) rfl ?_
    ·refine nload (t := ⟨25, n1, n2, false, o2, 0⟩) (nput6 (t0 := ⟨0, 0, 0, false, 0, 0⟩) ?_ ⟨25, n1, n2, false, o2, 0⟩)
     repeat' (first | with_reducible exact HF2s.out.res | with_reducible refine Img.other ?_ ?_ _ | (simp; done) | (simp; omega) | omega)
    ·refine ⟨⟨⟨25, n1, n2, false, o2, 0⟩, false, rfl, ⟨HCI.out, HN1.out, HN2.out, HO2.out, in64_0'⟩, hres'⟩, ?_⟩
     repeat' (first | with_reducible exact HF2s.out.below | with_reducible refine Below.setCell ?_ ?_ _ | (simp; done) | (simp; omega) | omega)
   | true =>
    go_wp2_with (first | (go_at_call 65; refine (NCount_any _ _ _ _ _ _ (by assumption)).mono ?_; rintro e w' ⟨rfl, rfl⟩) | (go_at_call 68; refine (Asks_any _ _).mono ?_; rintro e w' ⟨rfl, rfl⟩; rw [asks_of]))
    have hres' : R = if (b1) = true then some (⟨25, n1, n2, false, o2, 0⟩ : Step) else none := by rw [← HR2.out, rone_25, HV1.out, HV2.out]; cases b1 <;> rfl
    refine bodyPost_ret (results_cell_tmp Tryz.results39 (p := ⟨w.heap.size + 1, 0, none⟩) (v := .agg #[.int .i64 (25), .int .i64 (n1), .int .i64 (n2), .bool (false), .int .i64 (o2), .int .i64 (0)]) (u := .bool (b1)) (by simp [go_sem]) (by simp [go_sem]) ?_) rfl ?_
    ·refine nload (t := ⟨25, n1, n2, false, o2, 0⟩) (nput6 (t0 := ⟨0, 0, 0, false, 0, 0⟩) ?_ ⟨25, n1, n2, false, o2, 0⟩)
     repeat' (first | with_reducible exact HF2s.out.res | with_reducible refine Img.other ?_ ?_ _ | (simp; done) | (simp; omega) | omega)
    ·refine ⟨⟨⟨25, n1, n2, false, o2, 0⟩, b1, rfl, ⟨HCI.out, HN1.out, HN2.out, HO2.out, in64_0'⟩, hres'⟩, ?_⟩
     repeat' (first | with_reducible exact HF2s.out.below | with_reducible refine Below.setCell ?_ ?_ _ | (simp; done) | (simp; omega) | omega)
  ·have hl' : ¬ (L : Int) = 3 := by omega
   have hres : R = none := by rw [← HR2.out]; exact rone_25_bad (by have := HLL.out; omega)
   go_wp2_with (first | (go_at_call 65; refine (NCount_any _ _ _ _ _ _ (by assumption)).mono ?_; rintro e w' ⟨rfl, rfl⟩) | (go_at_call 68; refine (Asks_any _ _).mono ?_; rintro e w' ⟨rfl, rfl⟩; rw [asks_of]))
   have hres' : R = if (false) = true then some (⟨25, 0, 0, false, 0, 0⟩ : Step) else none := by rw [hres]; simp
   refine bodyPost_ret (results_cell_tmp Tryz.results39 (p := ⟨w.heap.size + 1, 0, none⟩) (v := .agg #[.int .i64 (25), .int .i64 (0), .int .i64 (0), .bool (false), .int .i64 (0), .int .i64 (0)]) (u := .bool (false)) (by simp [go_sem]) (by simp [go_sem]) ?_) rfl ?_
   ·refine nload (t := ⟨25, 0, 0, false, 0, 0⟩) (nput6 (t0 := ⟨0, 0, 0, false, 0, 0⟩) ?_ ⟨25, 0, 0, false, 0, 0⟩)
    repeat' (first | with_reducible exact HF0.out.res | with_reducible refine Img.other ?_ ?_ _ | (simp; done) | (simp; omega) | omega)
   ·refine ⟨⟨⟨25, 0, 0, false, 0, 0⟩, false, rfl, ⟨HCI.out, in64_0', in64_0', in64_0', in64_0'⟩, hres'⟩, ?_⟩
    repeat' (first | with_reducible exact HF0.out.below | with_reducible refine Below.setCell ?_ ?_ _ | (simp; done) | (simp; omega) | omega)
 ·by_cases hl : L = 3
  ·have hrl : r.length = 2 := by have := HLL.out; omega
   obtain ⟨y, z, rfl⟩ : ∃ y z, r = [y, z] := by
    rcases r with _ | ⟨y, _ | ⟨z, _ | ⟨u, _ | ⟨u2, r⟩⟩⟩⟩
    ·simp at hrl
    ·simp at hrl
    ·exact ⟨y, z, rfl⟩
    ·simp at hrl
    ·simp at hrl
   obtain rfl : L = 3 := by have := HLL.out; simpa using this
   have hy1 : y.length ≤ 100000 := HLEN.out y (by simp)
   have x1 : wr.cell? ⟨g, 1, none⟩ = some (.string (bs y)) := (HF0.out.below.cell (p := ⟨g, 1, none⟩) zg).trans (HWC.out 1 y rfl)
   have hy2 : z.length ≤ 100000 := HLEN.out z (by simp)
   have x2 : wr.cell? ⟨g, 2, none⟩ = some (.string (bs z)) := (HF0.out.below.cell (p := ⟨g, 2, none⟩) zg).trans (HWC.out 2 z rfl)
   go_wp2_with (first | (go_at_call 65; refine (NCount_any _ _ _ _ _ _ (by assumption)).mono ?_; rintro e w' ⟨rfl, rfl⟩) | (go_at_call 68; refine (Asks_any _ _).mono ?_; rintro e w' ⟨rfl, rfl⟩; rw [asks_of]))
   refine (NPlaced_any HIDX.out y hy1 _ (HTAB.out.later HF0.out.below)).mono ?_
   rintro e w1 ⟨⟨n1, o1, b1, rfl, hn1, ho1, hv1⟩, hb⟩
   have HO1 := Lib.hid ho1
   clear ho1
   have HF1 := Lib.hid (HF0.out.later hb)
   have HN1 := Lib.hid hn1
   have HV1 := Lib.hid hv1
   clear hb hn1 hv1 x1 x2
   clear f0 f1 f2 f3 f4 f5 q0 q1 q2 q3 q4 q5 r0 r1 r2 r3 r4 r5 t0 t1 t2 t3 t4 t5 b0 zm
   obtain ⟨f0, f1, f2, f3, f4, f5⟩ := ncells HF1.out.img
   obtain ⟨r0, r1, r2, r3, r4, r5⟩ := ncells HF1.out.res
   have q0 := HF1.out.img.free 0 (by omega); have q1 := HF1.out.img.free 1 (by omega); have q2 := HF1.out.img.free 2 (by omega); have q3 := HF1.out.img.free 3 (by omega); have q4 := HF1.out.img.free 4 (by omega); have q5 := HF1.out.img.free 5 (by omega)
   have t0 := HF1.out.res.free 0 (by omega); have t1 := HF1.out.res.free 1 (by omega); have t2 := HF1.out.res.free 2 (by omega); have t3 := HF1.out.res.free 3 (by omega); have t4 := HF1.out.res.free 4 (by omega); have t5 := HF1.out.res.free 5 (by omega)
   have b0 := HF1.out.box
   have zm : m < w1.heap.size := HF1.out.img.lt (by omega)
   simp only at f0 f1 f2 f3 f4 f5 r0 r1 r2 r3 r4 r5
   have x1 : w1.cell? ⟨g, 1, none⟩ = some (.string (bs y)) := (HF1.out.below.cell (p := ⟨g, 1, none⟩) zg).trans (HWC.out 1 y rfl)
   have x2 : w1.cell? ⟨g, 2, none⟩ = some (.string (bs z)) := (HF1.out.below.cell (p := ⟨g, 2, none⟩) zg).trans (HWC.out 2 z rfl)
   go_wp2_with (first | (go_at_call 65; refine (NCount_any _ _ _ _ _ _ (by assumption)).mono ?_; rintro e w' ⟨rfl, rfl⟩) | (go_at_call 68; refine (Asks_any _ _).mono ?_; rintro e w' ⟨rfl, rfl⟩; rw [asks_of]))
   generalize hWs : World.setCell (World.setCell w1 _ _) _ _ = w1s
   have HF1s : Hid (OneF w w1s (.slice (some ⟨g, 0, none⟩) 3 cap) m ⟨26, n1, 0, false, o1, 0⟩) := by
    rw [← hWs]
    exact ((HF1.out.set (t' := ⟨26, n1, 0, false, 0, 0⟩) 1 (by omega) _ (fun i hi => by rcases i with _ | _ | _ | _ | _ | _ | i <;> first | rfl | omega)).set (t' := ⟨26, n1, 0, false, o1, 0⟩) 4 (by omega) _ (fun i hi => by rcases i with _ | _ | _ | _ | _ | _ | i <;> first | rfl | omega))
   clear hWs
   refine (NSecond_any z hy2 m (26) (n1) (o1) _ (HTAB.out.later HF1s.out.below) HF1s.out.img).mono ?_
   rintro e w2 ⟨ok, ⟨tc, td, ts, tg, tq, tn⟩, rfl, hi, hb, hs, hn, e1, e2, e3, ht, hf⟩
   simp only at e1 e2 e3 hs hn ht hf
   rw [e1, e2, e3] at hi
   clear e1 e2 e3
   have HF2 := Lib.hid (HF1s.out.put hb hi)
   have HSS := Lib.hid hs
   have HSN := Lib.hid hn
   have HT := Lib.hid ht
   have HFA := Lib.hid hf
   clear hb hi hs hn ht hf x1 x2
   clear f0 f1 f2 f3 f4 f5 q0 q1 q2 q3 q4 q5 r0 r1 r2 r3 r4 r5 t0 t1 t2 t3 t4 t5 b0 zm
   obtain ⟨f0, f1, f2, f3, f4, f5⟩ := ncells HF2.out.img
   obtain ⟨r0, r1, r2, r3, r4, r5⟩ := ncells HF2.out.res
   have q0 := HF2.out.img.free 0 (by omega); have q1 := HF2.out.img.free 1 (by omega); have q2 := HF2.out.img.free 2 (by omega); have q3 := HF2.out.img.free 3 (by omega); have q4 := HF2.out.img.free 4 (by omega); have q5 := HF2.out.img.free 5 (by omega)
   have t0 := HF2.out.res.free 0 (by omega); have t1 := HF2.out.res.free 1 (by omega); have t2 := HF2.out.res.free 2 (by omega); have t3 := HF2.out.res.free 3 (by omega); have t4 := HF2.out.res.free 4 (by omega); have t5 := HF2.out.res.free 5 (by omega)
   have b0 := HF2.out.box
   have zm : m < w2.heap.size := HF2.out.img.lt (by omega)
   simp only at f0 f1 f2 f3 f4 f5 r0 r1 r2 r3 r4 r5
   cases ok with
   | false =>
    have hno := HFA.out rfl
    go_wp2_with (first | (go_at_call 65; refine (NCount_any _ _ _ _ _ _ (by assumption)).mono ?_; rintro e w' ⟨rfl, rfl⟩) | (go_at_call 68; refine (Asks_any _ _).mono ?_; rintro e w' ⟨rfl, rfl⟩; rw [asks_of]))
    have hres' : R = if (false) = true then some (⟨26, n1, ts, tg, o1, tn⟩ : Step) else none := by rw [← HR2.out, rone_26, hno, HV1.out]; cases b1 <;> rfl
    refine bodyPost_ret (results_cell_tmp Tryz.results39 (p := ⟨w.heap.size + 1, 0, none⟩) (v := .agg #[.int .i64 (26), .int .i64 (n1), .int .i64 (ts), .bool (tg), .int .i64 (o1), .int .i64 (tn)]) (u := .bool (false)) (by simp [go_sem]) (by simp [go_sem]) ?_) rfl ?_
    ·refine nload (t := ⟨26, n1, ts, tg, o1, tn⟩) (nput6 (t0 := ⟨0, 0, 0, false, 0, 0⟩) ?_ ⟨26, n1, ts, tg, o1, tn⟩)
     repeat' (first | with_reducible exact HF2.out.res | with_reducible refine Img.other ?_ ?_ _ | (simp; done) | (simp; omega) | omega)
    ·refine ⟨⟨⟨26, n1, ts, tg, o1, tn⟩, false, rfl, ⟨HCI.out, HN1.out, HSS.out, HO1.out, HSN.out⟩, hres'⟩, ?_⟩
     repeat' (first | with_reducible exact HF2.out.below | with_reducible refine Below.setCell ?_ ?_ _ | (simp; done) | (simp; omega) | omega)
   | true =>
    have hyes := HT.out rfl
    go_wp2_with (first | (go_at_call 65; refine (NCount_any _ _ _ _ _ _ (by assumption)).mono ?_; rintro e w' ⟨rfl, rfl⟩) | (go_at_call 68; refine (Asks_any _ _).mono ?_; rintro e w' ⟨rfl, rfl⟩; rw [asks_of]))
    have hres' : R = if (b1) = true then some (⟨26, n1, ts, tg, o1, tn⟩ : Step) else none := by rw [← HR2.out, rone_26, hyes, HV1.out]; cases b1 <;> rfl
    refine bodyPost_ret (results_cell_tmp Tryz.results39 (p := ⟨w.heap.size + 1, 0, none⟩) (v := .agg #[.int .i64 (26), .int .i64 (n1), .int .i64 (ts), .bool (tg), .int .i64 (o1), .int .i64 (tn)]) (u := .bool (b1)) (by simp [go_sem]) (by simp [go_sem]) ?_) rfl ?_
    ·refine nload (t := ⟨26, n1, ts, tg, o1, tn⟩) (nput6 (t0 := ⟨0, 0, 0, false, 0, 0⟩) ?_ ⟨26, n1, ts, tg, o1, tn⟩)
     repeat' (first | with_reducible exact HF2.out.res | with_reducible refine Img.other ?_ ?_ _ | (simp; done) | (simp; omega) | omega)
    ·refine ⟨⟨⟨26, n1, ts, tg, o1, tn⟩, b1, rfl, ⟨HCI.out, HN1.out, HSS.out, HO1.out, HSN.out⟩, hres'⟩, ?_⟩
     repeat' (first | with_reducible exact HF2.out.below | with_reducible refine Below.setCell ?_ ?_ _ | (simp; done) | (simp; omega) | omega)
  ·have hl' : ¬ (L : Int) = 3 := by omega
   have hres : R = none := by rw [← HR2.out]; exact rone_26_bad (by have := HLL.out; omega)
   go_wp2_with (first | (go_at_call 65; refine (NCount_any _ _ _ _ _ _ (by assumption)).mono ?_; rintro e w' ⟨rfl, rfl⟩) | (go_at_call 68; refine (Asks_any _ _).mono ?_; rintro e w' ⟨rfl, rfl⟩; rw [asks_of]))
   have hres' : R = if (false) = true then some (⟨26, 0, 0, false, 0, 0⟩ : Step) else none := by rw [hres]; simp
   refine bodyPost_ret (results_cell_tmp Tryz.results39 (p := ⟨w.heap.size + 1, 0, none⟩) (v := .agg #[.int .i64 (26), .int .i64 (0), .int .i64 (0), .bool (false), .int .i64 (0), .int .i64 (0)]) (u := .bool (false)) (by simp [go_sem]) (by simp [go_sem]) ?_) rfl ?_
   ·refine nload (t := ⟨26, 0, 0, false, 0, 0⟩) (nput6 (t0 := ⟨0, 0, 0, false, 0, 0⟩) ?_ ⟨26, 0, 0, false, 0, 0⟩)
    repeat' (first | with_reducible exact HF0.out.res | with_reducible refine Img.other ?_ ?_ _ | (simp; done) | (simp; omega) | omega)
   ·refine ⟨⟨⟨26, 0, 0, false, 0, 0⟩, false, rfl, ⟨HCI.out, in64_0', in64_0', in64_0', in64_0'⟩, hres'⟩, ?_⟩
    repeat' (first | with_reducible exact HF0.out.below | with_reducible refine Below.setCell ?_ ?_ _ | (simp; done) | (simp; omega) | omega)
 ·have c0 := abeq_no' (show C ≠ 0 by omega); have c28 := abeq_no' (show C ≠ 28 by omega); have c27 := abeq_no' (show C ≠ 27 by omega); have c14 := abeq_no' (show C ≠ 14 by omega); have c13 := abeq_no' (show C ≠ 13 by omega); have c25 := abeq_no' (show C ≠ 25 by omega); have c26 := abeq_no' (show C ≠ 26 by omega)
  have a12 : ¬ 15 ≤ C := by omega
  by_cases hl : L = 3
  ·have hrl : r.length = 2 := by have := HLL.out; omega
   obtain ⟨y, z, rfl⟩ : ∃ y z, r = [y, z] := by
    rcases r with _ | ⟨y, _ | ⟨z, _ | ⟨u, _ | ⟨u2, r⟩⟩⟩⟩
    ·simp at hrl
    ·simp at hrl
    ·exact ⟨y, z, rfl⟩
    ·simp at hrl
    ·simp at hrl
   obtain rfl : L = 3 := by have := HLL.out; simpa using this
   have hy1 : y.length ≤ 100000 := HLEN.out y (by simp)
   have x1 : wr.cell? ⟨g, 1, none⟩ = some (.string (bs y)) := (HF0.out.below.cell (p := ⟨g, 1, none⟩) zg).trans (HWC.out 1 y rfl)
   have hy2 : z.length ≤ 100000 := HLEN.out z (by simp)
   have x2 : wr.cell? ⟨g, 2, none⟩ = some (.string (bs z)) := (HF0.out.below.cell (p := ⟨g, 2, none⟩) zg).trans (HWC.out 2 z rfl)
   go_wp2_with (first | (go_at_call 65; refine (NCount_any _ _ _ _ _ _ (by assumption)).mono ?_; rintro e w' ⟨rfl, rfl⟩) | (go_at_call 68; refine (Asks_any _ _).mono ?_; rintro e w' ⟨rfl, rfl⟩; rw [asks_of]))
   refine (NRegister_any y hy1 _ (HTAB.out.later HF0.out.below)).mono ?_
   rintro e w1 ⟨⟨n1, b1, rfl, hn1, hv1⟩, hb⟩
   have HF1 := Lib.hid (HF0.out.later hb)
   have HN1 := Lib.hid hn1
   have HV1 := Lib.hid hv1
   clear hb hn1 hv1 x1 x2
   clear f0 f1 f2 f3 f4 f5 q0 q1 q2 q3 q4 q5 r0 r1 r2 r3 r4 r5 t0 t1 t2 t3 t4 t5 b0 zm
   obtain ⟨f0, f1, f2, f3, f4, f5⟩ := ncells HF1.out.img
   obtain ⟨r0, r1, r2, r3, r4, r5⟩ := ncells HF1.out.res
   have q0 := HF1.out.img.free 0 (by omega); have q1 := HF1.out.img.free 1 (by omega); have q2 := HF1.out.img.free 2 (by omega); have q3 := HF1.out.img.free 3 (by omega); have q4 := HF1.out.img.free 4 (by omega); have q5 := HF1.out.img.free 5 (by omega)
   have t0 := HF1.out.res.free 0 (by omega); have t1 := HF1.out.res.free 1 (by omega); have t2 := HF1.out.res.free 2 (by omega); have t3 := HF1.out.res.free 3 (by omega); have t4 := HF1.out.res.free 4 (by omega); have t5 := HF1.out.res.free 5 (by omega)
   have b0 := HF1.out.box
   have zm : m < w1.heap.size := HF1.out.img.lt (by omega)
   simp only at f0 f1 f2 f3 f4 f5 r0 r1 r2 r3 r4 r5
   have x1 : w1.cell? ⟨g, 1, none⟩ = some (.string (bs y)) := (HF1.out.below.cell (p := ⟨g, 1, none⟩) zg).trans (HWC.out 1 y rfl)
   have x2 : w1.cell? ⟨g, 2, none⟩ = some (.string (bs z)) := (HF1.out.below.cell (p := ⟨g, 2, none⟩) zg).trans (HWC.out 2 z rfl)
   go_wp2_with (first | (go_at_call 65; refine (NCount_any _ _ _ _ _ _ (by assumption)).mono ?_; rintro e w' ⟨rfl, rfl⟩) | (go_at_call 68; refine (Asks_any _ _).mono ?_; rintro e w' ⟨rfl, rfl⟩; rw [asks_of]))
   generalize hWs : World.setCell w1 _ _ = w1s
   have HF1s : Hid (OneF w w1s (.slice (some ⟨g, 0, none⟩) 3 cap) m ⟨C, n1, 0, false, 0, 0⟩) := by
    rw [← hWs]
    exact (HF1.out.set (t' := ⟨C, n1, 0, false, 0, 0⟩) 1 (by omega) _ (fun i hi => by rcases i with _ | _ | _ | _ | _ | _ | i <;> first | rfl | omega))
   clear hWs
   refine (NSecond_any z hy2 m (C) (n1) (0) _ (HTAB.out.later HF1s.out.below) HF1s.out.img).mono ?_
   rintro e w2 ⟨ok, ⟨tc, td, ts, tg, tq, tn⟩, rfl, hi, hb, hs, hn, e1, e2, e3, ht, hf⟩
   simp only at e1 e2 e3 hs hn ht hf
   rw [e1, e2, e3] at hi
   clear e1 e2 e3
   have HF2 := Lib.hid (HF1s.out.put hb hi)
   have HSS := Lib.hid hs
   have HSN := Lib.hid hn
   have HT := Lib.hid ht
   have HFA := Lib.hid hf
   clear hb hi hs hn ht hf x1 x2
   clear f0 f1 f2 f3 f4 f5 q0 q1 q2 q3 q4 q5 r0 r1 r2 r3 r4 r5 t0 t1 t2 t3 t4 t5 b0 zm
   obtain ⟨f0, f1, f2, f3, f4, f5⟩ := ncells HF2.out.img
   obtain ⟨r0, r1, r2, r3, r4, r5⟩ := ncells HF2.out.res
   have q0 := HF2.out.img.free 0 (by omega); have q1 := HF2.out.img.free 1 (by omega); have q2 := HF2.out.img.free 2 (by omega); have q3 := HF2.out.img.free 3 (by omega); have q4 := HF2.out.img.free 4 (by omega); have q5 := HF2.out.img.free 5 (by omega)
   have t0 := HF2.out.res.free 0 (by omega); have t1 := HF2.out.res.free 1 (by omega); have t2 := HF2.out.res.free 2 (by omega); have t3 := HF2.out.res.free 3 (by omega); have t4 := HF2.out.res.free 4 (by omega); have t5 := HF2.out.res.free 5 (by omega)
   have b0 := HF2.out.box
   have zm : m < w2.heap.size := HF2.out.img.lt (by omega)
   simp only at f0 f1 f2 f3 f4 f5 r0 r1 r2 r3 r4 r5
   cases ok with
   | false =>
    have hno := HFA.out rfl
    go_wp2_with (first | (go_at_call 65; refine (NCount_any _ _ _ _ _ _ (by assumption)).mono ?_; rintro e w' ⟨rfl, rfl⟩) | (go_at_call 68; refine (Asks_any _ _).mono ?_; rintro e w' ⟨rfl, rfl⟩; rw [asks_of]))
    have hres' : R = if (false) = true then some (⟨C, n1, ts, tg, 0, tn⟩ : Step) else none := by rw [← HR2.out, rone_make hc, hno, HV1.out]; cases b1 <;> rfl
    refine bodyPost_ret (results_cell_tmp Tryz.results39 (p := ⟨w.heap.size + 1, 0, none⟩) (v := .agg #[.int .i64 (C), .int .i64 (n1), .int .i64 (ts), .bool (tg), .int .i64 (0), .int .i64 (tn)]) (u := .bool (false)) (by simp [go_sem]) (by simp [go_sem]) ?_) rfl ?_
    ·refine nload (t := ⟨C, n1, ts, tg, 0, tn⟩) (nput6 (t0 := ⟨0, 0, 0, false, 0, 0⟩) ?_ ⟨C, n1, ts, tg, 0, tn⟩)
     repeat' (first | with_reducible exact HF2.out.res | with_reducible refine Img.other ?_ ?_ _ | (simp; done) | (simp; omega) | omega)
    ·refine ⟨⟨⟨C, n1, ts, tg, 0, tn⟩, false, rfl, ⟨HCI.out, HN1.out, HSS.out, in64_0', HSN.out⟩, hres'⟩, ?_⟩
     repeat' (first | with_reducible exact HF2.out.below | with_reducible refine Below.setCell ?_ ?_ _ | (simp; done) | (simp; omega) | omega)
   | true =>
    have hyes := HT.out rfl
    go_wp2_with (first | (go_at_call 65; refine (NCount_any _ _ _ _ _ _ (by assumption)).mono ?_; rintro e w' ⟨rfl, rfl⟩) | (go_at_call 68; refine (Asks_any _ _).mono ?_; rintro e w' ⟨rfl, rfl⟩; rw [asks_of]))
    have hres' : R = if (b1) = true then some (⟨C, n1, ts, tg, 0, tn⟩ : Step) else none := by rw [← HR2.out, rone_make hc, hyes, HV1.out]; cases b1 <;> rfl
    refine bodyPost_ret (results_cell_tmp Tryz.results39 (p := ⟨w.heap.size + 1, 0, none⟩) (v := .agg #[.int .i64 (C), .int .i64 (n1), .int .i64 (ts), .bool (tg), .int .i64 (0), .int .i64 (tn)]) (u := .bool (b1)) (by simp [go_sem]) (by simp [go_sem]) ?_) rfl ?_
    ·refine nload (t := ⟨C, n1, ts, tg, 0, tn⟩) (nput6 (t0 := ⟨0, 0, 0, false, 0, 0⟩) ?_ ⟨C, n1, ts, tg, 0, tn⟩)
     repeat' (first | with_reducible exact HF2.out.res | with_reducible refine Img.other ?_ ?_ _ | (simp; done) | (simp; omega) | omega)
    ·refine ⟨⟨⟨C, n1, ts, tg, 0, tn⟩, b1, rfl, ⟨HCI.out, HN1.out, HSS.out, in64_0', HSN.out⟩, hres'⟩, ?_⟩
     repeat' (first | with_reducible exact HF2.out.below | with_reducible refine Below.setCell ?_ ?_ _ | (simp; done) | (simp; omega) | omega)
  ·have hl' : ¬ (L : Int) = 3 := by omega
   have hres : R = none := by rw [← HR2.out]; exact rone_make_bad hc (by have := HLL.out; omega)
   go_wp2_with (first | (go_at_call 65; refine (NCount_any _ _ _ _ _ _ (by assumption)).mono ?_; rintro e w' ⟨rfl, rfl⟩) | (go_at_call 68; refine (Asks_any _ _).mono ?_; rintro e w' ⟨rfl, rfl⟩; rw [asks_of]))
   have hres' : R = if (false) = true then some (⟨C, 0, 0, false, 0, 0⟩ : Step) else none := by rw [hres]; simp
   refine bodyPost_ret (results_cell_tmp Tryz.results39 (p := ⟨w.heap.size + 1, 0, none⟩) (v := .agg #[.int .i64 (C), .int .i64 (0), .int .i64 (0), .bool (false), .int .i64 (0), .int .i64 (0)]) (u := .bool (false)) (by simp [go_sem]) (by simp [go_sem]) ?_) rfl ?_
   ·refine nload (t := ⟨C, 0, 0, false, 0, 0⟩) (nput6 (t0 := ⟨0, 0, 0, false, 0, 0⟩) ?_ ⟨C, 0, 0, false, 0, 0⟩)
    repeat' (first | with_reducible exact HF0.out.res | with_reducible refine Img.other ?_ ?_ _ | (simp; done) | (simp; omega) | omega)
   ·refine ⟨⟨⟨C, 0, 0, false, 0, 0⟩, false, rfl, ⟨HCI.out, in64_0', in64_0', in64_0', in64_0'⟩, hres'⟩, ?_⟩
    repeat' (first | with_reducible exact HF0.out.below | with_reducible refine Below.setCell ?_ ?_ _ | (simp; done) | (simp; omega) | omega)
end Go.Proofs.YtglilddlhibogaaGreatDoor.W
