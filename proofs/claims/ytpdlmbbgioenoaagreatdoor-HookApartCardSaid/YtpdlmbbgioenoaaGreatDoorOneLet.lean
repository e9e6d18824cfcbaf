/- A part of the proof; each theorem states its conditions. -/
import Derived.Test.YtpdlmbbgioenoaaGreatDoorOneRun
import Derived.Test.YtpdlmbbgioenoaaGreatDoorN8
import Derived.Test.YtpdlmbbgioenoaaGreatDoorPureLet
import Derived.Test.YtpdlmbbgioenoaaGreatDoorReads
import Derived.ChangeSame
set_option linter.unusedSimpArgs false
set_option linter.unusedVariables false
set_option maxRecDepth 100000
namespace Go.Proofs.YtpdlmbbgioenoaaGreatDoor.W
open Go.RowKit Go.Proofs.YtpdlmbbgioenoaaGreatDoor.P
set_option maxHeartbeats 4000000 in
theorem Run_err (v0 : Value) (told cells : Nat → Int) (time er p : Int) (he : er ≠ 0) (w : World) (hC : ∀ w', Below w.heap.size w w' → Calls Tryz.prog 28 #[v0] w' fun e w'' => ∃ v, e = .returned v ∧ ErrIs w'' v er p ∧ Below w'.heap.size w' w'') :
  Calls Tryz.prog 31 #[v0, words8 told, words16 cells, .int .i64 time] w fun e w' => (∃ v err, e = .returned (.tuple #[v, err]) ∧ RanIs w' v err (.inl (er, p))) ∧ Below w.heap.size w w' := by
 have HW0 := Lib.hid (Below.refl w.heap.size w)
 unfold words8 words16
 have HC := Lib.hid hC
 clear hC
 go_enter Tryz.func31, Tryz.ntmps31
 go_wp2_with fail
 refine (HC.out _ ?_).mono ?_
 ·repeat' (first | with_reducible exact HW0.out | with_reducible refine Below.alloc ?_ ?_ _ | (simp; done) | (simp; omega) | omega)
 rintro e w1 ⟨v, rfl, hv, hb⟩
 have HW1 := Lib.hid (show Below w.heap.size w w1 from Below.trans (by repeat' (first | with_reducible exact HW0.out | with_reducible refine Below.alloc ?_ ?_ _ | (simp; done) | (simp; omega) | omega)) (hb.mono (by first | omega | simp <;> omega)))
 have R1 : Img w1 (w.heap.size + 2) 19 ranz := Img.later (Img.mk' (by simpa using heap_alloc_new ((w.alloc _).alloc _) _) (by rfl)) hb (by simp)
 clear hb
 have HR1 := Lib.hid R1
 have HTH := Lib.hid (show w1.there (w.heap.size + 1 + 1) 0 (Array.size (#[.int .i64 0, .int .i64 0, .int .i64 0, .int .i64 0, .int .i64 0, .int .i64 0, .int .i64 0, .int .i64 0, .int .i64 0, .int .i64 0, .int .i64 0, .int .i64 0, .int .i64 0, .int .i64 0, .int .i64 0, .int .i64 0, .int .i64 0, .slice none 0 0, .int .i64 0] : Array Value)) from there_img R1)
 have HV := Lib.hid hv
 have HE := Lib.hid he
 obtain ⟨ty, x, rfl⟩ := hv.iface he
 clear R1 hv he
 go_upto_region 3 with fail
 refine wp_region_lit ?_
 refine wpList_build (by rfl) 87 _ (by rfl) #[] (by simp) #[.int .i64 0, .int .i64 0, .int .i64 0, .int .i64 0, .int .i64 0, .int .i64 0, .int .i64 0, .int .i64 0, .int .i64 0, .int .i64 0, .int .i64 0, .int .i64 0, .int .i64 0, .int .i64 0, .int .i64 0, .int .i64 0, .int .i64 0, .slice none 0 0, .int .i64 0] built_ranz ?_
 go_wp2_with (with_reducible refine wpList_store_mid rfl 87 (.tmp 8) (.tmp 21) rfl (w.heap.size + 1 + 1) 0 #[.int .i64 0, .int .i64 0, .int .i64 0, .int .i64 0, .int .i64 0, .int .i64 0, .int .i64 0, .int .i64 0, .int .i64 0, .int .i64 0, .int .i64 0, .int .i64 0, .int .i64 0, .int .i64 0, .int .i64 0, .int .i64 0, .int .i64 0, .slice none 0 0, .int .i64 0] (by simp [go_sem]; done) (by simp [go_sem]; done) HTH.out size_ranz one_ranz ?_)
 have hld : (loadVar 87 ⟨w.heap.size + 1 + 1, 0, none⟩).run Tryz.prog (w1.setCells (w.heap.size + 1 + 1) 0 [.int .i64 0, .int .i64 0, .int .i64 0, .int .i64 0, .int .i64 0, .int .i64 0, .int .i64 0, .int .i64 0, .int .i64 0, .int .i64 0, .int .i64 0, .int .i64 0, .int .i64 0, .int .i64 0, .int .i64 0, .int .i64 0, .int .i64 0, .slice none 0 0, .int .i64 0]) = .ok (.agg #[.int .i64 0, .int .i64 0, .int .i64 0, .int .i64 0, .int .i64 0, .int .i64 0, .int .i64 0, .int .i64 0, .int .i64 0, .int .i64 0, .int .i64 0, .int .i64 0, .int .i64 0, .int .i64 0, .int .i64 0, .int .i64 0, .int .i64 0, .slice none 0 0, .int .i64 0]) (w1.setCells (w.heap.size + 1 + 1) 0 [.int .i64 0, .int .i64 0, .int .i64 0, .int .i64 0, .int .i64 0, .int .i64 0, .int .i64 0, .int .i64 0, .int .i64 0, .int .i64 0, .int .i64 0, .int .i64 0, .int .i64 0, .int .i64 0, .int .i64 0, .int .i64 0, .int .i64 0, .slice none 0 0, .int .i64 0]) := run_loadVar_mid (P := Tryz.prog) _ (w.heap.size + 1 + 1) 0 87 [.int .i64 0, .int .i64 0, .int .i64 0, .int .i64 0, .int .i64 0, .int .i64 0, .int .i64 0, .int .i64 0, .int .i64 0, .int .i64 0, .int .i64 0, .int .i64 0, .int .i64 0, .int .i64 0, .int .i64 0, .int .i64 0, .int .i64 0, .slice none 0 0, .int .i64 0] _ (World.rangeAt_setCells_same w1 (w.heap.size + 1 + 1) 0 [.int .i64 0, .int .i64 0, .int .i64 0, .int .i64 0, .int .i64 0, .int .i64 0, .int .i64 0, .int .i64 0, .int .i64 0, .int .i64 0, .int .i64 0, .int .i64 0, .int .i64 0, .int .i64 0, .int .i64 0, .int .i64 0, .int .i64 0, .slice none 0 0, .int .i64 0] HTH.out) Tryz.underlying87 rfl size_ran
 refine bodyPost_ret (results_cell_tmp Tryz.results31 (p := ⟨w.heap.size + 1 + 1, 0, none⟩) (by simp [go_sem]) (by simp [go_sem]; rfl) hld) rfl ⟨⟨_, _, rfl, ?_⟩, ?_⟩
 ·exact ⟨rfl, HV.out.setZero HR1.out, HE.out⟩
 ·exact below_setCells (by omega) _ _ _ _ HW1.out
def outcome (S : Nat → Step) (n : Nat) (told cells : Nat → Int) (time : Int) : (Int × Int) ⊕ (Mach × Int × Int) :=
 if n < 1 ∨ 200 < n then .inl (4, -1) else if (from_ S n 0 n).1 ≠ 0 then .inl ((from_ S n 0 n).1, (from_ S n 0 n).2) else Mach.run S told time n (Mach.init cells) 0 1
theorem Run_full (oa : Option Addr) (n cap : Nat) (S : Nat → Step) (hcap : n ≤ cap) (told cells : Nat → Int) (time : Int) (w : World) (hs : ProgAt w oa S n) (hg : w.cell? ⟨4, 0, none⟩ = some (.iface 298 (.agg #[.pointer (some ⟨14, 26, none⟩)]))) :
  Calls Tryz.prog 31 #[.slice oa n cap, words8 told, words16 cells, .int .i64 time] w fun e w' => (∃ v err, e = .returned (.tuple #[v, err]) ∧ RanIs w' v err (outcome S n told cells time)) ∧ Below w.heap.size w w' := by
 have gz := block_lt_of_cell hg
 unfold outcome
 by_cases h : n < 1 ∨ 200 < n
 ·rw [if_pos h]
  exact Run_err _ told cells time 4 (-1) (by decide) w fun w' hb => (Check_limit oa n cap h hcap w').mono fun e w'' ⟨he, hw⟩ => ⟨_, he, .inr (.inl ⟨by decide, rfl, rfl⟩), by rw [hw]; exact Below.refl _ _⟩
 ·rw [if_neg h]
  obtain ⟨a, ea, hs2⟩ := hs (by omega)
  subst ea
  clear hs
  have hs := hs2
  by_cases h0 : (from_ S n 0 n).1 = 0
  ·rw [if_neg (by simp [h0])]
   exact Run_ok a n cap S (by omega) (by omega) hcap told cells time w hs hg (from_zero _ _ h0)
  ·rw [if_pos h0]
   exact Run_err _ told cells time _ _ h0 w fun w' hb => (Check_some a n cap S (by omega) (by omega) hcap w' (hs.later hb) ((hb.cell gz).trans hg)).mono fun e w'' ⟨v, he, hv, hb2⟩ => ⟨v, he, hv, hb2⟩
end Go.Proofs.YtpdlmbbgioenoaaGreatDoor.W
namespace Go.Proofs.YtpdlmbbgioenoaaGreatDoor.W
open Go.RowKit Go.Proofs.YtpdlmbbgioenoaaGreatDoor.P
open Go.Sort (grow)
theorem row_got {w : World} {base n : Nat} {L : List Step} {v : Value} (hn : L.length = n) (h : w.ownsRow base 81 6 v n (rowOf L)) : ∃ og cap, v = .slice og n cap ∧ n ≤ cap ∧ (0 < n → ∃ a, og = some a ∧ Cells w a (nth L) n) := by
 subst hn
 have hr := h
 rcases h.2 with ⟨rfl, h0⟩ | ⟨g, cap, cur, rfl, _, _, hc, _⟩
 ·exact ⟨none, 0, by rw [h0], by omega, fun h => by omega⟩
 ·exact ⟨_, cap, rfl, hc, fun _ => ⟨_, rfl, row_cells rfl hr⟩⟩
theorem nth_in {L : List Step} {j : Nat} (h : ∀ t ∈ L, t.wrong = 0 ∧ In64 t.off ∧ In64 t.num) (hj : j < L.length) : In64 (nth L j).off ∧ In64 (nth L j).num := by
 have := h (nth L j) (by unfold nth; rw [List.getD_eq_getElem?_getD, List.getElem?_eq_getElem hj]; exact List.getElem_mem _)
 exact this.2
end Go.Proofs.YtpdlmbbgioenoaaGreatDoor.W
namespace Go.Proofs.YtpdlmbbgioenoaaGreatDoor.R
open Go.ChangeShapes Go.WideShapes Go.ChangeAt Go.RowKit Go.Joins Go.Deep
theorem okWide_array {P : Program} {w : World} {r : Reach} {b0 : Nat} {t e : TypeId} {n : Nat} {v : Value} (ht : P.underlying t = some (.array n e)) (h : Value.okWide P w r b0 t v) : ∃ cs : Array Value, v = .agg cs ∧ cs.size = P.cellsOf t := by
 simp only [Value.okWide, ht] at h
 obtain ⟨cs, h1, h2, _⟩ := h
 exact ⟨cs, h1, h2⟩
theorem arr_of {cs : Array Value} {n : Nat} (hsz : cs.size = n) (h : ∀ i, i < n → ∃ k, cs[i]? = some (.int .i64 k) ∧ P.In64 k) : ∃ f : Nat → Int, (∀ r, P.In64 (f r)) ∧ cs = ((List.range n).map fun j => Value.int .i64 (f j)).toArray := by
 refine ⟨fun i => if hl : i < n then Classical.choose (h i hl) else 0, fun r => ?_, ?_⟩
 ·simp only
  split
  ·rename_i hl; exact (Classical.choose_spec (h r hl)).2
  ·exact P.in64_zero
 ·apply Array.ext'
  apply List.ext_getElem?
  intro i
  by_cases hl : i < n
  ·rw [Array.getElem?_toList, (Classical.choose_spec (h i hl)).1]
   simp [hl]
  ·rw [List.getElem?_eq_none (by simp; omega), List.getElem?_eq_none (by simp; omega)]
theorem cellsW : Tryz.prog.cellsOf 34 = 8 := by kernel_rfl
theorem cellsI : Tryz.prog.cellsOf 2 = 1 := by kernel_rfl
end Go.Proofs.YtpdlmbbgioenoaaGreatDoor.R
namespace Go.Proofs.YtpdlmbbgioenoaaGreatDoor.W
open Go.RowKit Go.WideShapes Go.ChangeShapes
theorem post_old {H : Type} {enc : TypeId × Value → H} {P : Program} {f : Func} {s : ChangeSpec} {apart fresh handsOn again : Bool} {w w' : World} {args : Array Value} {v : Value} {ds gs : List (DataW H)} {old pa pv : List MemPlace}
  (hb : Below w.heap.size w w') (hW : DataW.Whole enc P f.params.toList s.vars apart w args.toList ds gs old) (hp : old = pa ++ pv)
  (hr : ∀ (b : Nat) (sp : Nat → Bool) (hd : Bool), DataW.TrodAll enc P w' b sp hd f.resultTypes.toList (v.resultList f.resultTypes.size) (s.fn H (ds ++ gs)).results [])
  (ha : ∀ sp : Nat → Bool, (∀ p ∈ old, sp p.block = true) → DataW.TrodAll enc P w' 0 sp true f.params.toList args.toList (s.fn H (ds ++ gs)).args pa)
  (hv : ∀ sp : Nat → Bool, (∀ p ∈ old, sp p.block = true) → DataW.TrodVars enc P w' sp s.vars (s.fn H (ds ++ gs)).vars pv)
  (hok : ∀ (j : Nat) (t : TypeId) (r : Value), f.resultTypes[j]? = some t → (v.resultList f.resultTypes.size)[j]? = some r → Value.okWide P w' .any 0 t r) :
  s.post enc P f apart fresh handsOn again w args v w' := by
 let sp : Nat → Bool := fun b => decide (b < w.heap.size)
 have lt : ∀ p ∈ old, p.block < w.heap.size := fun p h => hW.lt p h
 have osp : ∀ p ∈ old, sp p.block = true := fun p h => decide_eq_true (lt p h)
 have kept : w.keptBut w' (· ∈ old) := hb.frame _
 have all := trodAll_append (ha (fun _ => true) (fun _ _ => rfl)) (hr 0 (fun _ => true) true)
 refine ⟨ds, gs, old, [], pa, pv, hW, hr _ _ _, ha sp osp, hv sp osp, World.keptBut_mono (fun p h => ⟨h, Or.inr ?_⟩) kept, fun _ => ?_⟩
 ·exact List.mem_append.1 (hp ▸ h)
 ·obtain ⟨_, _, _, _, _, hz, hn⟩ := hW
  refine ⟨hok, _, _, [] ++ pa ++ pv, ⟨[] ++ pa, pv, all, hv _ (fun _ _ => rfl), rfl, ?_, ?_⟩, ?_⟩
  ·intro b off h
   have ho : MemPlace.cell b off ∈ old := by rw [hp]; simpa using h
   rw [hb.frozen (lt _ ho)]
   exact hz b off ho
  ·intro h
   have := hn h
   rw [hp] at this
   simpa using this
  ·intro p h _
   rw [hp]
   simpa using h
end Go.Proofs.YtpdlmbbgioenoaaGreatDoor.W
