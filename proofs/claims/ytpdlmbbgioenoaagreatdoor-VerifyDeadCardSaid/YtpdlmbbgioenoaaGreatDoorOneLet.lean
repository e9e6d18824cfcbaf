/- A row's last step where the call leaves memory that was there as it was (Below), and all else is new: the arguments read as before, the result is a plain one. No conditions beyond the theorem's own. -/
import Derived.Test.YtpdlmbbgioenoaaGreatDoorOneRun
import Derived.Test.YtpdlmbbgioenoaaGreatDoorOneVer
import Derived.Test.YtpdlmbbgioenoaaGreatDoorN8
import Derived.Test.YtpdlmbbgioenoaaGreatDoorIs
import Derived.Test.YtpdlmbbgioenoaaGreatDoorPureLet
import Derived.Deep.CutBlock
import Derived.Deep.DeepCutAuto
import Derived.Deep.Light
import Derived.Lib.QuietBelow
import Derived.Test.YtpdlmbbgioenoaaGreatDoorReads
import Derived.Below
import Derived.ChangeSame
/-! part: RunOne -/
namespace Go.Proofs.YtpdlmbbgioenoaaGreatDoor.W
open Go.RowKit Go.Proofs.YtpdlmbbgioenoaaGreatDoor.P
set_option linter.unusedSimpArgs false
set_option linter.unusedVariables false

set_option maxRecDepth 100000 in
set_option maxHeartbeats 4000000 in
theorem Run_err (v0 : Value) (told cells : Nat → Int) (time er p : Int) (he : er ≠ 0) (w : World) (hC : ∀ w', Below w.heap.size w w' → Calls Tryz.prog 28 #[v0] w' fun e w'' => ∃ v, e = .returned v ∧ ErrIs w'' v er p ∧ Below w'.heap.size w' w'') :
  Calls Tryz.prog 31 #[v0, words8 told, words16 cells, .int .i64 time] w fun e w' => (∃ v err, e = .returned (.tuple #[v, err]) ∧ RanIs w' v err (.inl (er, p))) ∧ Below w.heap.size w w' := by
 have HW0 := Lib.hid (Below.refl w.heap.size w)
 unfold words8 words16
 have HC := Lib.hid hC
 clear hC
 go_enter Tryz.func31, Tryz.ntmps31
 go_wp2_with fail
 refine (HC.out _ ?_).mono ?_
 ·repeat' (first | with_reducible exact HW0.out | with_reducible refine Below.alloc ?_ ?_ _ | (simp; done) | (simp; omega) | omega)
 rintro e w1 ⟨v, rfl, hv, hb⟩
 have HW1 := Lib.hid (show Below w.heap.size w w1 from Below.trans (by repeat' (first | with_reducible exact HW0.out | with_reducible refine Below.alloc ?_ ?_ _ | (simp; done) | (simp; omega) | omega)) (hb.mono (by first | omega | simp <;> omega)))
 have R1 : Img w1 (w.heap.size + 2) 19 ranz := Img.later (Img.mk' (by simpa using heap_alloc_new ((w.alloc _).alloc _) _) (by rfl)) hb (by simp)
 clear hb
 have HR1 := Lib.hid R1
 have HTH := Lib.hid (show w1.there (w.heap.size + 1 + 1) 0 (Array.size (#[.int .i64 0, .int .i64 0, .int .i64 0, .int .i64 0, .int .i64 0, .int .i64 0, .int .i64 0, .int .i64 0, .int .i64 0, .int .i64 0, .int .i64 0, .int .i64 0, .int .i64 0, .int .i64 0, .int .i64 0, .int .i64 0, .int .i64 0, .slice none 0 0, .int .i64 0] : Array Value)) from there_img R1)
 have HV := Lib.hid hv
 have HE := Lib.hid he
 obtain ⟨ty, x, rfl⟩ := hv.iface he
 clear R1 hv he
 go_upto_region 3 with fail
 refine wp_region_lit ?_
 refine wpList_build (by rfl) 87 _ (by rfl) #[] (by simp) #[.int .i64 0, .int .i64 0, .int .i64 0, .int .i64 0, .int .i64 0, .int .i64 0, .int .i64 0, .int .i64 0, .int .i64 0, .int .i64 0, .int .i64 0, .int .i64 0, .int .i64 0, .int .i64 0, .int .i64 0, .int .i64 0, .int .i64 0, .slice none 0 0, .int .i64 0] built_ranz ?_
 go_wp2_with (with_reducible refine wpList_store_mid rfl 87 (.tmp 8) (.tmp 21) rfl (w.heap.size + 1 + 1) 0 #[.int .i64 0, .int .i64 0, .int .i64 0, .int .i64 0, .int .i64 0, .int .i64 0, .int .i64 0, .int .i64 0, .int .i64 0, .int .i64 0, .int .i64 0, .int .i64 0, .int .i64 0, .int .i64 0, .int .i64 0, .int .i64 0, .int .i64 0, .slice none 0 0, .int .i64 0] (by simp [go_sem]; done) (by simp [go_sem]; done) HTH.out size_ranz one_ranz ?_)
 have hld : (loadVar 87 ⟨w.heap.size + 1 + 1, 0, none⟩).run Tryz.prog (w1.setCells (w.heap.size + 1 + 1) 0 [.int .i64 0, .int .i64 0, .int .i64 0, .int .i64 0, .int .i64 0, .int .i64 0, .int .i64 0, .int .i64 0, .int .i64 0, .int .i64 0, .int .i64 0, .int .i64 0, .int .i64 0, .int .i64 0, .int .i64 0, .int .i64 0, .int .i64 0, .slice none 0 0, .int .i64 0]) = .ok (.agg #[.int .i64 0, .int .i64 0, .int .i64 0, .int .i64 0, .int .i64 0, .int .i64 0, .int .i64 0, .int .i64 0, .int .i64 0, .int .i64 0, .int .i64 0, .int .i64 0, .int .i64 0, .int .i64 0, .int .i64 0, .int .i64 0, .int .i64 0, .slice none 0 0, .int .i64 0]) (w1.setCells (w.heap.size + 1 + 1) 0 [.int .i64 0, .int .i64 0, .int .i64 0, .int .i64 0, .int .i64 0, .int .i64 0, .int .i64 0, .int .i64 0, .int .i64 0, .int .i64 0, .int .i64 0, .int .i64 0, .int .i64 0, .int .i64 0, .int .i64 0, .int .i64 0, .int .i64 0, .slice none 0 0, .int .i64 0]) := run_loadVar_mid (P := Tryz.prog) _ (w.heap.size + 1 + 1) 0 87 [.int .i64 0, .int .i64 0, .int .i64 0, .int .i64 0, .int .i64 0, .int .i64 0, .int .i64 0, .int .i64 0, .int .i64 0, .int .i64 0, .int .i64 0, .int .i64 0, .int .i64 0, .int .i64 0, .int .i64 0, .int .i64 0, .int .i64 0, .slice none 0 0, .int .i64 0] _ (World.rangeAt_setCells_same w1 (w.heap.size + 1 + 1) 0 [.int .i64 0, .int .i64 0, .int .i64 0, .int .i64 0, .int .i64 0, .int .i64 0, .int .i64 0, .int .i64 0, .int .i64 0, .int .i64 0, .int .i64 0, .int .i64 0, .int .i64 0, .int .i64 0, .int .i64 0, .int .i64 0, .int .i64 0, .slice none 0 0, .int .i64 0] HTH.out) Tryz.underlying87 rfl size_ran
 refine bodyPost_ret (results_cell_tmp Tryz.results31 (p := ⟨w.heap.size + 1 + 1, 0, none⟩) (by simp [go_sem]) (by simp [go_sem]; rfl) hld) rfl ⟨⟨_, _, rfl, ?_⟩, ?_⟩
 ·exact ⟨rfl, HV.out.setZero HR1.out, HE.out⟩
 ·exact below_setCells (by omega) _ _ _ _ HW1.out

/-- what comes of a program: what is wrong with it, or its run -/
def outcome (S : Nat → Step) (n : Nat) (told cells : Nat → Int) (time : Int) : (Int × Int) ⊕ (Mach × Int × Int) :=
 if n < 1 ∨ 200 < n then .inl (4, -1) else if (from_ S n 0 n).1 ≠ 0 then .inl ((from_ S n 0 n).1, (from_ S n 0 n).2) else Mach.run S told time n (Mach.init cells) 0 1
theorem Run_full (oa : Option Addr) (n cap : Nat) (S : Nat → Step) (hcap : n ≤ cap) (told cells : Nat → Int) (time : Int) (w : World) (hs : ProgAt w oa S n) (hg : w.cell? ⟨4, 0, none⟩ = some (.iface 298 (.agg #[.pointer (some ⟨14, 26, none⟩)]))) :
  Calls Tryz.prog 31 #[.slice oa n cap, words8 told, words16 cells, .int .i64 time] w fun e w' => (∃ v err, e = .returned (.tuple #[v, err]) ∧ RanIs w' v err (outcome S n told cells time)) ∧ Below w.heap.size w w' := by
 have gz := block_lt_of_cell hg
 unfold outcome
 by_cases h : n < 1 ∨ 200 < n
 ·rw [if_pos h]
  exact Run_err _ told cells time 4 (-1) (by decide) w fun w' hb => (Check_limit oa n cap h hcap w').mono fun e w'' ⟨he, hw⟩ => ⟨_, he, .inr (.inl ⟨by decide, rfl, rfl⟩), by rw [hw]; exact Below.refl _ _⟩
 ·rw [if_neg h]
  obtain ⟨a, ea, hs2⟩ := hs (by omega)
  subst ea
  clear hs
  have hs := hs2
  by_cases h0 : (from_ S n 0 n).1 = 0
  ·rw [if_neg (by simp [h0])]
   exact Run_ok a n cap S (by omega) (by omega) hcap told cells time w hs hg (from_zero _ _ h0)
  ·rw [if_pos h0]
   exact Run_err _ told cells time _ _ h0 w fun w' hb => (Check_some a n cap S (by omega) (by omega) hcap w' (hs.later hb) ((hb.cell gz).trans hg)).mono fun e w'' ⟨v, he, hv, hb2⟩ => ⟨v, he, hv, hb2⟩

end Go.Proofs.YtpdlmbbgioenoaaGreatDoor.W

/-! part: Let -/
namespace Go.Proofs.YtpdlmbbgioenoaaGreatDoor.W
open Go.RowKit Go.Proofs.YtpdlmbbgioenoaaGreatDoor.P
set_option linter.unusedSimpArgs false
set_option linter.unusedVariables false
open Go.Sort (grow)

theorem row_got {w : World} {base n : Nat} {L : List Step} {v : Value} (hn : L.length = n) (h : w.ownsRow base 81 6 v n (rowOf L)) : ∃ og cap, v = .slice og n cap ∧ n ≤ cap ∧ (0 < n → ∃ a, og = some a ∧ Cells w a (nth L) n) := by
 subst hn
 have hr := h
 rcases h.2 with ⟨rfl, h0⟩ | ⟨g, cap, cur, rfl, _, _, hc, _⟩
 ·exact ⟨none, 0, by rw [h0], by omega, fun h => by omega⟩
 ·exact ⟨_, cap, rfl, hc, fun _ => ⟨_, rfl, row_cells rfl hr⟩⟩
theorem nth_in {L : List Step} {j : Nat} (h : ∀ t ∈ L, t.wrong = 0 ∧ In64 t.off ∧ In64 t.num) (hj : j < L.length) : In64 (nth L j).off ∧ In64 (nth L j).num := by
 have := h (nth L j) (by unfold nth; rw [List.getD_eq_getElem?_getD, List.getElem?_eq_getElem hj]; exact List.getElem_mem _)
 exact this.2
/-- what Tell tells of an error -/
theorem Tell_is {w : World} {v : Value} {n p : Int} (h : ErrIs w v n p) (hn : n ≠ 0) (hg : ErrT w) : Calls Tryz.prog 29 #[v] w fun e w' => e = .returned (.int .i64 n) ∧ Below w.heap.size w w' := by
 rcases h with ⟨-, h, -⟩ | ⟨-, rfl, -⟩ | ⟨-, b, rfl, h0, -⟩
 ·exact absurd h hn
 ·exact Tell_errno n w hg
 ·exact Tell_at b n w hg h0
set_option maxRecDepth 100000 in
set_option maxHeartbeats 16000000 in
theorem Let_yes (w : World) (h : RTabs w) (hg : ErrT w) : Calls Tryz.prog 26 #[] w fun e w' => e = .returned (.bool true) ∧ Below w.heap.size w w' := by
 have H := Lib.hid h
 have HG := Lib.hid hg
 clear h hg
 go_enter Tryz.func26, Tryz.ntmps26
 go_wp2_with fail
 refine (NRead_any tLet (by decide) _ H.out HG.out).mono ?_
 rintro e w1 ⟨v, er, rfl, he, hrow, hb⟩
 rw [rread_let] at he hrow
 obtain rfl := rerr_nil he
 obtain ⟨og, cap, rfl, hcap, hcs⟩ := row_got (n := 6) (L := pLet) rfl hrow
 have HB1 := Lib.hid hb
 have HC1 := Lib.hid hcs
 clear he hrow hb hcs
 go_wp2_with fail
 refine (NRead_any tNot (by decide) _ (H.out.later HB1.out) (HG.out.later HB1.out)).mono ?_
 rintro e w2 ⟨v, er, rfl, he, hrow, hb⟩
 rw [rread_not] at he hrow
 obtain rfl := rerr_nil he
 obtain ⟨og2, cap2, rfl, hcap2, hcs2⟩ := row_got (n := 5) (L := pNot) rfl hrow
 have HB2 := Lib.hid (HB1.out.trans (hb.mono HB1.out.size))
 have HC12 := Lib.hid (show ProgAt w2 og (nth pLet) 6 from fun h => by obtain ⟨a, ha, hc⟩ := HC1.out h; exact ⟨a, ha, hc.later hb⟩)
 have HC2 := Lib.hid (show ProgAt w2 og2 (nth pNot) 5 from fun h => hcs2 h)
 clear he hrow hb hcs2 HC1
 go_wp2_with fail
 refine (Verify_full og 6 cap (nth pLet) hcap _ HC12.out (fun j hj => nth_in ok_let hj) (HG.out.later HB2.out)).mono ?_
 rintro e w3 ⟨v3, rfl, he, hb⟩
 rw [verify_let] at he ⊢
 obtain rfl := rerr_nil he
 have HB3 := Lib.hid (HB2.out.trans (hb.mono HB2.out.size))
 have HC3 := Lib.hid (HC2.out.later hb)
 clear he hb HC2 HC12
 simp only
 go_upto_region 6 with fail
 generalize hW : World.alloc w3 _ = w4
 have I0 : P.Img w4 w3.heap.size 2 (fun j => if j = 0 then .int .i64 3 else .int .i64 3) := by
  rw [← hW]
  exact (imgOf (heap_alloc_new w3 _) (by kernel_rfl))
 have hb34 : Below w3.heap.size w3 w4 := hW ▸ ((Below.refl w3.heap.size w3).alloc (Nat.le_refl _) _)
 have HB4 := Lib.hid (HB3.out.trans (hb34.mono HB3.out.size))
 have HC4 := Lib.hid (HC3.out.later hb34)
 have HI0 := Lib.hid I0
 clear I0 hW hb34 HC3
 go_wp2_with fail
 refine (Verify_full og2 5 cap2 (nth pNot) hcap2 _ HC4.out (fun j hj => nth_in ok_not hj) (HG.out.later HB4.out)).mono ?_
 rintro e w5 ⟨v5, rfl, he, hb⟩
 have hv := verify_not
 obtain ⟨X, hX⟩ : ∃ X, verify (nth pNot) 5 = X := ⟨_, rfl⟩
 rw [hX] at he hv ⊢
 obtain ⟨⟨x, p⟩, ⟨lo, hi⟩⟩ := X
 obtain rfl : x = 2 := hv
 clear hX
 have HB5 := Lib.hid (HB4.out.trans (hb.mono HB4.out.size))
 have HI5 := Lib.hid (HI0.out.later hb (HI0.out.lt (by omega)))
 have HE5 := Lib.hid he
 clear he hb HI0
 simp only
 go_upto_region 7 with fail
 generalize hW : World.alloc w5 _ = w6
 have hb56 : Below w5.heap.size w5 w6 := hW ▸ ((Below.refl w5.heap.size w5).alloc (Nat.le_refl _) _)
 have HB6 := Lib.hid (HB5.out.trans (hb56.mono HB5.out.size))
 have HE6 := Lib.hid (HE5.out.later hb56)
 have I6 := HI5.out.later hb56 (HI5.out.lt (by omega))
 have a0 : w6.cell? ⟨w3.heap.size, 0, none⟩ = some (.int .i64 3) := I6.cell 0 (by omega)
 have a1 : w6.cell? ⟨w3.heap.size, 1, none⟩ = some (.int .i64 3) := I6.cell 1 (by omega)
 have k0 := cell_regrown a0; have k1 := cell_regrown a1
 have C0 := Lib.hid (show ∀ dr os, Calls Tryz.prog 60 #[.int .i64 3] (grow (redrawn w6 dr) os) fun e w'' => e = .returned (.agg #[.int .i64 3, .int .i64 3]) ∧ ∃ p : Regrown, w'' = grow (redrawn w6 p.d) p.os from fun dr os => Calls.regrown_of (One_any 3 _))
 have C1 := Lib.hid (show ∀ dr os, Calls Tryz.prog 29 #[v5] (grow (redrawn w6 dr) os) fun e w'' => e = .returned (.int .i64 2) ∧ ∃ p : Regrown, w'' = grow (redrawn w6 p.d) p.os from fun dr os => Calls.regrown_of (Tell_is (HE6.out.later (below_regrown w6 dr os)) (by decide) ((HG.out.later HB6.out).later (below_regrown w6 dr os))))
 clear hb56 HI5 I6 hW
 refine wp_region_quiet_below (by kernel_rfl) (by kernel_rfl) ?_
 repeat (quiet_step (first | exact C0.out _ _ | exact C1.out _ _))
 refine wpQuiet_nil ?_
 intro wq hwq
 have B6q := Lib.hid (show Below w6.heap.size w6 wq from by obtain ⟨p, hp⟩ := hwq; rw [hp]; exact below_regrown _ _ _)
 clear hwq
 go_wp2_with fail
 go_ret
 refine ⟨?_, HB6.out.trans (B6q.out.mono HB6.out.size)⟩
 first | rfl | (simp; done) | exact ret_bool (by simp)
end Go.Proofs.YtpdlmbbgioenoaaGreatDoor.W

/-! part: Reads2 -/
namespace Go.Proofs.YtpdlmbbgioenoaaGreatDoor.R
open Go.ChangeShapes Go.WideShapes Go.ChangeAt Go.RowKit Go.Joins Go.Deep
set_option linter.unusedSimpArgs false
set_option linter.unusedVariables false
set_option linter.unusedVariables false
theorem okWide_array {P : Program} {w : World} {r : Reach} {b0 : Nat} {t e : TypeId} {n : Nat} {v : Value} (ht : P.underlying t = some (.array n e)) (h : Value.okWide P w r b0 t v) : ∃ cs : Array Value, v = .agg cs ∧ cs.size = P.cellsOf t := by
 simp only [Value.okWide, ht] at h
 obtain ⟨cs, h1, h2, _⟩ := h
 exact ⟨cs, h1, h2⟩
/-- an array of numbers -/
theorem arr_of {cs : Array Value} {n : Nat} (hsz : cs.size = n) (h : ∀ i, i < n → ∃ k, cs[i]? = some (.int .i64 k) ∧ P.In64 k) : ∃ f : Nat → Int, (∀ r, P.In64 (f r)) ∧ cs = ((List.range n).map fun j => Value.int .i64 (f j)).toArray := by
 refine ⟨fun i => if hl : i < n then Classical.choose (h i hl) else 0, fun r => ?_, ?_⟩
 ·simp only
  split
  ·rename_i hl; exact (Classical.choose_spec (h r hl)).2
  ·exact P.in64_zero
 ·apply Array.ext'
  apply List.ext_getElem?
  intro i
  by_cases hl : i < n
  ·rw [Array.getElem?_toList, (Classical.choose_spec (h i hl)).1]
   simp [hl]
  ·rw [List.getElem?_eq_none (by simp; omega), List.getElem?_eq_none (by simp; omega)]
theorem cellsW : Tryz.prog.cellsOf 34 = 8 := by kernel_rfl
theorem cellsT : Tryz.prog.cellsOf 55 = 16 := by kernel_rfl
theorem cellsR : Tryz.prog.cellsOf 53 = 4 := by kernel_rfl
theorem cellsI : Tryz.prog.cellsOf 2 = 1 := by kernel_rfl
set_option maxRecDepth 100000 in
/-- what is told, out of its reading -/
theorem words_of_reads {H : Type} {enc : TypeId × Value → H} {W : World} {sp : Nat → Bool} {held : Bool} {r : Reach} {b0 : Nat} {v : Value} {d : DataW H} {p : List MemPlace}
  (hv : Value.okWide Tryz.prog W r b0 34 v) (h : DataW.Trod enc Tryz.prog W 0 sp held 34 v d p) : ∃ told : Nat → Int, v = Go.Proofs.YtpdlmbbgioenoaaGreatDoor.W.words8 told ∧ ∀ j, P.In64 (told j) := by
 obtain ⟨cs, hcs, hsz⟩ := okWide_array (P := Tryz.prog) (t := 34) Tryz.underlying34 hv
 subst hcs
 rw [cellsW] at hsz
 obtain ⟨fuel, hf⟩ := h
 obtain ⟨xs, m, -, -, -, hxl, hi⟩ := DataW.trod_array Tryz.underlying34 hf
 obtain ⟨f, hf1, hf2⟩ := arr_of (n := 8) hsz fun i hil => by
  have hx := hi i hil
  rw [List.getElem?_eq_getElem (by omega), cellsI] at hx
  obtain ⟨k, e, -, wk⟩ := DataW.trod_int Tryz.underlying2 hx
  refine ⟨k, ?_, in64_lit wk⟩
  have := congrArg (·[0]?) e
  simpa [Value.cells] using this
 exact ⟨f, by rw [hf2]; rfl, hf1⟩
set_option maxRecDepth 100000 in
/-- a table, out of its reading -/
theorem table_of_reads {H : Type} {enc : TypeId × Value → H} {W : World} {sp : Nat → Bool} {held : Bool} {r : Reach} {b0 : Nat} {v : Value} {d : DataW H} {p : List MemPlace}
  (hv : Value.okWide Tryz.prog W r b0 55 v) (h : DataW.Trod enc Tryz.prog W 0 sp held 55 v d p) : ∃ cells : Nat → Int, v = Go.Proofs.YtpdlmbbgioenoaaGreatDoor.W.words16 cells ∧ ∀ j, P.In64 (cells j) := by
 obtain ⟨cs, hcs, hsz⟩ := okWide_array (P := Tryz.prog) (t := 55) Tryz.underlying55 hv
 subst hcs
 rw [cellsT] at hsz
 obtain ⟨fuel, hf⟩ := h
 obtain ⟨xs, m, -, -, -, hxl, hi⟩ := DataW.trod_array Tryz.underlying55 hf
 obtain ⟨f, hf1, hf2⟩ := arr_of (n := 16) hsz fun i hil => by
  have hx := hi (i / 4) (by omega)
  rw [List.getElem?_eq_getElem (by omega), cellsR] at hx
  obtain ⟨ys, m2, -, -, -, hyl, hj⟩ := DataW.trod_array Tryz.underlying53 hx
  have hy := hj (i % 4) (by omega)
  rw [List.getElem?_eq_getElem (by omega), cellsI] at hy
  obtain ⟨k, e, -, wk⟩ := DataW.trod_int Tryz.underlying2 hy
  refine ⟨k, ?_, in64_lit wk⟩
  have := congrArg (·[0]?) e
  simp [Value.cells, List.getElem?_take, List.getElem?_drop] at this
  have h4 : i / 4 * 4 + i % 4 = i := by omega
  first
   | (rw [h4] at this; exact this.2)
   | (rw [h4] at this; exact this)
   | (have t2 := this (by omega); rw [h4] at t2; exact t2)
 exact ⟨f, by rw [hf2]; rfl, hf1⟩

end Go.Proofs.YtpdlmbbgioenoaaGreatDoor.R

/-! part: Post -/
namespace Go.Proofs.YtpdlmbbgioenoaaGreatDoor.W
open Go.RowKit Go.WideShapes Go.ChangeShapes
set_option linter.unusedSimpArgs false
set_option linter.unusedVariables false

theorem post_old {H : Type} {enc : TypeId × Value → H} {P : Program} {f : Func} {s : ChangeSpec} {apart fresh handsOn again : Bool} {w w' : World} {args : Array Value} {v : Value} {ds gs : List (DataW H)} {old pa pv : List MemPlace}
  (hb : Below w.heap.size w w') (hW : DataW.Whole enc P f.params.toList s.vars apart w args.toList ds gs old) (hp : old = pa ++ pv)
  (hr : ∀ (b : Nat) (sp : Nat → Bool) (hd : Bool), DataW.TrodAll enc P w' b sp hd f.resultTypes.toList (v.resultList f.resultTypes.size) (s.fn H (ds ++ gs)).results [])
  (ha : ∀ sp : Nat → Bool, (∀ p ∈ old, sp p.block = true) → DataW.TrodAll enc P w' 0 sp true f.params.toList args.toList (s.fn H (ds ++ gs)).args pa)
  (hv : ∀ sp : Nat → Bool, (∀ p ∈ old, sp p.block = true) → DataW.TrodVars enc P w' sp s.vars (s.fn H (ds ++ gs)).vars pv)
  (hok : ∀ (j : Nat) (t : TypeId) (r : Value), f.resultTypes[j]? = some t → (v.resultList f.resultTypes.size)[j]? = some r → Value.okWide P w' .any 0 t r) :
  s.post enc P f apart fresh handsOn again w args v w' := by
 let sp : Nat → Bool := fun b => decide (b < w.heap.size)
 have lt : ∀ p ∈ old, p.block < w.heap.size := fun p h => hW.lt p h
 have osp : ∀ p ∈ old, sp p.block = true := fun p h => decide_eq_true (lt p h)
 have kept : w.keptBut w' (· ∈ old) := hb.frame _
 have all := trodAll_append (ha (fun _ => true) (fun _ _ => rfl)) (hr 0 (fun _ => true) true)
 refine ⟨ds, gs, old, [], pa, pv, hW, hr _ _ _, ha sp osp, hv sp osp, World.keptBut_mono (fun p h => ⟨h, Or.inr ?_⟩) kept, fun _ => ?_⟩
 ·exact List.mem_append.1 (hp ▸ h)
 ·obtain ⟨_, _, _, _, _, hz, hn⟩ := hW
  refine ⟨hok, _, _, [] ++ pa ++ pv, ⟨[] ++ pa, pv, all, hv _ (fun _ _ => rfl), rfl, ?_, ?_⟩, ?_⟩
  ·intro b off h
   have ho : MemPlace.cell b off ∈ old := by rw [hp]; simpa using h
   rw [hb.frozen (lt _ ho)]
   exact hz b off ho
  ·intro h
   have := hn h
   rw [hp] at this
   simpa using this
  ·intro p h _
   rw [hp]
   simpa using h

end Go.Proofs.YtpdlmbbgioenoaaGreatDoor.W
