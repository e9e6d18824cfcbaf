/- The walks of machine.Run and of the reference's Run over a program that is not in order. Conditions: the check's contract gives an error. -/
import Derived.Test.YtfpoicdfkjbknaaDoorRanDef
import Derived.Test.YtfpoicdfkjbknaaDoorR9
namespace Go.Proofs.YtfpoicdfkjbknaaDoor.W
open Go.RowKit Go.Proofs.YtfpoicdfkjbknaaDoor.P
set_option linter.unusedSimpArgs false
set_option linter.unusedVariables false

set_option maxRecDepth 100000 in
set_option maxHeartbeats 4000000 in
theorem Run_err (v0 : Value) (told cells : Nat → Int) (time er p : Int) (he : er ≠ 0) (w : World) (hC : ∀ w', Below w.heap.size w w' → Calls Tryd.prog 17 #[v0] w' fun e w'' => ∃ v, e = .returned v ∧ ErrIs w'' v er p ∧ Below w'.heap.size w' w'') :
    Calls Tryd.prog 7 #[v0, words8 told, words16 cells, .int .i64 time] w fun e w' => (∃ v err, e = .returned (.tuple #[v, err]) ∧ RanIs w' v err (.inl (er, p))) ∧ Below w.heap.size w w' := by
  have HW0 := Lib.hid (Below.refl w.heap.size w)
  unfold words8 words16
  have HC := Lib.hid hC
  clear hC
  go_enter Tryd.func7, Tryd.ntmps7
  go_wp2_with fail
  refine (HC.out _ ?_).mono ?_
  · repeat' (first | with_reducible exact HW0.out | with_reducible refine Below.alloc ?_ ?_ _ | (simp; done) | (simp; omega) | omega)
  rintro e w1 ⟨v, rfl, hv, hb⟩
  have HW1 := Lib.hid (show Below w.heap.size w w1 from Below.trans (by repeat' (first | with_reducible exact HW0.out | with_reducible refine Below.alloc ?_ ?_ _ | (simp; done) | (simp; omega) | omega)) (hb.mono (by first | (simp; done) | (simp; omega) | omega)))
  have R1 : Img w1 (w.heap.size + 2) 19 ranz := Img.later (Img.mk' (by simpa using heap_alloc_new ((w.alloc _).alloc _) _) (by rfl)) hb (by simp)
  clear hb
  have HR1 := Lib.hid R1
  have HTH := Lib.hid (show w1.there (w.heap.size + 1 + 1) 0 (Array.size (#[.int .i64 0, .int .i64 0, .int .i64 0, .int .i64 0, .int .i64 0, .int .i64 0, .int .i64 0, .int .i64 0, .int .i64 0, .int .i64 0, .int .i64 0, .int .i64 0, .int .i64 0, .int .i64 0, .int .i64 0, .int .i64 0, .int .i64 0, .slice none 0 0, .int .i64 0] : Array Value)) from there_img R1)
  have HV := Lib.hid hv
  have HE := Lib.hid he
  obtain ⟨ty, x, rfl⟩ := hv.iface he
  clear R1 hv he
  go_upto_region 3 with fail
  refine wp_region_lit ?_
  refine wpList_build (by rfl) 35 _ (by rfl) #[] (by simp) #[.int .i64 0, .int .i64 0, .int .i64 0, .int .i64 0, .int .i64 0, .int .i64 0, .int .i64 0, .int .i64 0, .int .i64 0, .int .i64 0, .int .i64 0, .int .i64 0, .int .i64 0, .int .i64 0, .int .i64 0, .int .i64 0, .int .i64 0, .slice none 0 0, .int .i64 0] built_ranz ?_
  go_wp2_with (with_reducible refine wpList_store_mid rfl 35 (.tmp 8) (.tmp 21) rfl (w.heap.size + 1 + 1) 0 #[.int .i64 0, .int .i64 0, .int .i64 0, .int .i64 0, .int .i64 0, .int .i64 0, .int .i64 0, .int .i64 0, .int .i64 0, .int .i64 0, .int .i64 0, .int .i64 0, .int .i64 0, .int .i64 0, .int .i64 0, .int .i64 0, .int .i64 0, .slice none 0 0, .int .i64 0] (by simp [go_sem]; done) (by simp [go_sem]; done) HTH.out size_ranz one_ranz ?_)
  have hld : (loadVar 35 ⟨w.heap.size + 1 + 1, 0, none⟩).run Tryd.prog (w1.setCells (w.heap.size + 1 + 1) 0 [.int .i64 0, .int .i64 0, .int .i64 0, .int .i64 0, .int .i64 0, .int .i64 0, .int .i64 0, .int .i64 0, .int .i64 0, .int .i64 0, .int .i64 0, .int .i64 0, .int .i64 0, .int .i64 0, .int .i64 0, .int .i64 0, .int .i64 0, .slice none 0 0, .int .i64 0]) = .ok (.agg #[.int .i64 0, .int .i64 0, .int .i64 0, .int .i64 0, .int .i64 0, .int .i64 0, .int .i64 0, .int .i64 0, .int .i64 0, .int .i64 0, .int .i64 0, .int .i64 0, .int .i64 0, .int .i64 0, .int .i64 0, .int .i64 0, .int .i64 0, .slice none 0 0, .int .i64 0]) (w1.setCells (w.heap.size + 1 + 1) 0 [.int .i64 0, .int .i64 0, .int .i64 0, .int .i64 0, .int .i64 0, .int .i64 0, .int .i64 0, .int .i64 0, .int .i64 0, .int .i64 0, .int .i64 0, .int .i64 0, .int .i64 0, .int .i64 0, .int .i64 0, .int .i64 0, .int .i64 0, .slice none 0 0, .int .i64 0]) := run_loadVar_mid (P := Tryd.prog) _ (w.heap.size + 1 + 1) 0 35 [.int .i64 0, .int .i64 0, .int .i64 0, .int .i64 0, .int .i64 0, .int .i64 0, .int .i64 0, .int .i64 0, .int .i64 0, .int .i64 0, .int .i64 0, .int .i64 0, .int .i64 0, .int .i64 0, .int .i64 0, .int .i64 0, .int .i64 0, .slice none 0 0, .int .i64 0] _ (World.rangeAt_setCells_same w1 (w.heap.size + 1 + 1) 0 [.int .i64 0, .int .i64 0, .int .i64 0, .int .i64 0, .int .i64 0, .int .i64 0, .int .i64 0, .int .i64 0, .int .i64 0, .int .i64 0, .int .i64 0, .int .i64 0, .int .i64 0, .int .i64 0, .int .i64 0, .int .i64 0, .int .i64 0, .slice none 0 0, .int .i64 0] HTH.out) Tryd.underlying35 rfl size_ran
  refine bodyPost_ret (results_cell_tmp Tryd.results7 (p := ⟨w.heap.size + 1 + 1, 0, none⟩) (by simp [go_sem]) (by simp [go_sem]; rfl) hld) rfl ⟨⟨_, _, rfl, ?_⟩, ?_⟩
  · exact ⟨rfl, HV.out.setZero HR1.out, HE.out⟩
  · exact below_setCells (by omega) _ _ _ _ HW1.out

theorem step_plain {o : Oper} (hgd : o.guard = none) {ys : Nat → Option Bool} {X Y : Prop} (h : X) : if Region.wanted o ys = true then X else Y := by
  rw [if_pos (by unfold Region.wanted; rw [hgd])]; exact h
/-- a region of four, its first one done: the second waits for nothing, nor does the third, the fourth waits for all -/
theorem region_ls {P : Program} {Q : Exit → Act → World → Prop} {a : Act} {w : World} {o0 o1 o2 o3 : Oper} (g1 : o1.guard = none) (g2 : o2.guard = none) (g3 : o3.guard = none)
    (r1 : Region.ready .any [o0, o1, o2, o3].toArray ((Array.replicate 4 false).setIfInBounds 0 true) = [1, 2]) (r3 : Region.ready .any [o0, o1, o2, o3].toArray (((Array.replicate 4 false).setIfInBounds 0 true).setIfInBounds 1 true) = [2]) (r5 : Region.ready .any [o0, o1, o2, o3].toArray (((Array.replicate 4 false).setIfInBounds 0 true).setIfInBounds 2 true) = [1])
    (r6 : Region.ready .any [o0, o1, o2, o3].toArray ((((Array.replicate 4 false).setIfInBounds 0 true).setIfInBounds 1 true).setIfInBounds 2 true) = [3]) (r8 : Region.ready .any [o0, o1, o2, o3].toArray ((((Array.replicate 4 false).setIfInBounds 0 true).setIfInBounds 2 true).setIfInBounds 1 true) = [3])
    (r9 : Region.ready .any [o0, o1, o2, o3].toArray (((((Array.replicate 4 false).setIfInBounds 0 true).setIfInBounds 1 true).setIfInBounds 2 true).setIfInBounds 3 true) = []) (r11 : Region.ready .any [o0, o1, o2, o3].toArray (((((Array.replicate 4 false).setIfInBounds 0 true).setIfInBounds 2 true).setIfInBounds 1 true).setIfInBounds 3 true) = [])
    (h1 : o1.wp P a w (fun a w => o2.wp P a w (fun a w => o3.wp P a w (fun a w => Q .normal a w) Q) Q) Q)
    (h2 : o2.wp P a w (fun a w => o1.wp P a w (fun a w => o3.wp P a w (fun a w => Q .normal a w) Q) Q) Q) : wpAny P .any [o0, o1, o2, o3].toArray Q 3 ((Array.replicate 4 false).setIfInBounds 0 true) a w := by
  refine wpAny_ready r1 (by simp) (AllReady.cons rfl (fun K hK => step_plain g1 ?_) (AllReady.cons rfl (fun K hK => step_plain g2 ?_) AllReady.nil))
  · refine Oper.wp_mono (fun a w h => hK _ _ (wpAny_ready r3 (by simp) (AllReady.cons rfl (fun K hK => step_plain g2 ?_) AllReady.nil))) h1
    refine Oper.wp_mono (fun a w h => hK _ _ (wpAny_ready r6 (by simp) (AllReady.cons rfl (fun K hK => step_plain g3 ?_) AllReady.nil))) h
    exact Oper.wp_mono (fun a w h => hK _ _ (wpAny_done r9 h _)) h
  · refine Oper.wp_mono (fun a w h => hK _ _ (wpAny_ready r5 (by simp) (AllReady.cons rfl (fun K hK => step_plain g1 ?_) AllReady.nil))) h2
    refine Oper.wp_mono (fun a w h => hK _ _ (wpAny_ready r8 (by simp) (AllReady.cons rfl (fun K hK => step_plain g3 ?_) AllReady.nil))) h
    exact Oper.wp_mono (fun a w h => hK _ _ (wpAny_done r11 h _)) h
theorem region_ls' {P : Program} {Q : Exit → Act → World → Prop} {a : Act} {w : World} {o0 o1 o2 o3 : Oper} (g1 : o1.guard = none) (g2 : o2.guard = none) (g3 : o3.guard = none)
    (r1 : Region.ready .any [o0, o1, o2, o3].toArray ((Array.replicate 4 false).setIfInBounds 0 true) = [1, 2]) (r3 : Region.ready .any [o0, o1, o2, o3].toArray (((Array.replicate 4 false).setIfInBounds 0 true).setIfInBounds 1 true) = [2]) (r5 : Region.ready .any [o0, o1, o2, o3].toArray (((Array.replicate 4 false).setIfInBounds 0 true).setIfInBounds 2 true) = [1])
    (r6 : Region.ready .any [o0, o1, o2, o3].toArray ((((Array.replicate 4 false).setIfInBounds 0 true).setIfInBounds 1 true).setIfInBounds 2 true) = [3]) (r8 : Region.ready .any [o0, o1, o2, o3].toArray ((((Array.replicate 4 false).setIfInBounds 0 true).setIfInBounds 2 true).setIfInBounds 1 true) = [3])
    (r9 : Region.ready .any [o0, o1, o2, o3].toArray (((((Array.replicate 4 false).setIfInBounds 0 true).setIfInBounds 1 true).setIfInBounds 2 true).setIfInBounds 3 true) = []) (r11 : Region.ready .any [o0, o1, o2, o3].toArray (((((Array.replicate 4 false).setIfInBounds 0 true).setIfInBounds 2 true).setIfInBounds 1 true).setIfInBounds 3 true) = [])
    (hh : o1.wp P a w (fun a w => o2.wp P a w (fun a w => o3.wp P a w (fun a w => Q .normal a w) Q) Q) Q ∧ o2.wp P a w (fun a w => o1.wp P a w (fun a w => o3.wp P a w (fun a w => Q .normal a w) Q) Q) Q) : wpAny P .any [o0, o1, o2, o3].toArray Q 3 ((Array.replicate 4 false).setIfInBounds 0 true) a w := by
  obtain ⟨h1, h2⟩ := hh
  refine wpAny_ready r1 (by simp) (AllReady.cons rfl (fun K hK => step_plain g1 ?_) (AllReady.cons rfl (fun K hK => step_plain g2 ?_) AllReady.nil))
  · refine Oper.wp_mono (fun a w h => hK _ _ (wpAny_ready r3 (by simp) (AllReady.cons rfl (fun K hK => step_plain g2 ?_) AllReady.nil))) h1
    refine Oper.wp_mono (fun a w h => hK _ _ (wpAny_ready r6 (by simp) (AllReady.cons rfl (fun K hK => step_plain g3 ?_) AllReady.nil))) h
    exact Oper.wp_mono (fun a w h => hK _ _ (wpAny_done r9 h _)) h
  · refine Oper.wp_mono (fun a w h => hK _ _ (wpAny_ready r5 (by simp) (AllReady.cons rfl (fun K hK => step_plain g1 ?_) AllReady.nil))) h2
    refine Oper.wp_mono (fun a w h => hK _ _ (wpAny_ready r8 (by simp) (AllReady.cons rfl (fun K hK => step_plain g3 ?_) AllReady.nil))) h
    exact Oper.wp_mono (fun a w h => hK _ _ (wpAny_done r11 h _)) h
theorem store29 {op : Oper} {a : Act} {w : World} {K : Act → World → Prop} {Q : Exit → Act → World → Prop} {g : Nat} (ho : op.op = .store 29 (.tmp 8) (.tmp 21)) (hx : a.eval (.tmp 8) = .pointer (some ⟨g, 0, none⟩)) (hy : a.eval (.tmp 21) = .agg #[.int .i64 0, .int .i64 0, .int .i64 0, .int .i64 0, .int .i64 0, .int .i64 0, .int .i64 0, .int .i64 0, .int .i64 0, .int .i64 0, .int .i64 0, .int .i64 0, .int .i64 0, .int .i64 0, .int .i64 0, .int .i64 0, .int .i64 0, .slice none 0 0, .int .i64 0]) (ht : w.there g 0 19)
    (h : K (a.put op.dst undef) (w.setCells g 0 [.int .i64 0, .int .i64 0, .int .i64 0, .int .i64 0, .int .i64 0, .int .i64 0, .int .i64 0, .int .i64 0, .int .i64 0, .int .i64 0, .int .i64 0, .int .i64 0, .int .i64 0, .int .i64 0, .int .i64 0, .int .i64 0, .int .i64 0, .slice none 0 0, .int .i64 0])) : op.wp Tryd.prog a w K Q := wp_store_mid 29 (.tmp 8) (.tmp 21) ho g 0 #[.int .i64 0, .int .i64 0, .int .i64 0, .int .i64 0, .int .i64 0, .int .i64 0, .int .i64 0, .int .i64 0, .int .i64 0, .int .i64 0, .int .i64 0, .int .i64 0, .int .i64 0, .int .i64 0, .int .i64 0, .int .i64 0, .int .i64 0, .slice none 0 0, .int .i64 0] hx hy ht size_rran one_ranz h
theorem store32 {op : Oper} {a : Act} {w : World} {K : Act → World → Prop} {Q : Exit → Act → World → Prop} {g : Nat} {er p : Int} (ho : op.op = .store 32 (.tmp 9) (.tmp 22)) (hx : a.eval (.tmp 9) = .pointer (some ⟨g, 0, none⟩)) (hy : a.eval (.tmp 22) = .agg #[.int .i64 er, .int .i64 p]) (ht : w.there g 0 2)
    (h : K (a.put op.dst undef) (w.setCells g 0 [.int .i64 er, .int .i64 p])) : op.wp Tryd.prog a w K Q := wp_store_mid 32 (.tmp 9) (.tmp 22) ho g 0 #[.int .i64 er, .int .i64 p] hx hy ht size_fault (one_two _ _) h
theorem load32 {op : Oper} {a : Act} {w : World} {K : Act → World → Prop} {Q : Exit → Act → World → Prop} {g : Nat} {er p : Int} (ho : op.op = .load 32 (.tmp 10)) (hx : a.eval (.tmp 10) = .pointer (some ⟨g, 0, none⟩)) (hc : w.rangeAt g 0 [.int .i64 er, .int .i64 p])
    (h : K (a.put op.dst (.agg #[.int .i64 er, .int .i64 p])) w) : op.wp Tryd.prog a w K Q := wp_load_mid 32 (.tmp 10) ho g 0 hx [.int .i64 er, .int .i64 p] _ hc Tryd.underlying32 rfl size_fault h
theorem tail3 {a : Act} {w : World} {Q : Exit → Act → World → Prop} {o1 o2 o3 : Oper} {g8 g9 g10 : Nat} {er p : Int} (h1 : o1.op = .load 32 (.tmp 10)) (d1 : o1.dst = some 22) (h2 : o2.op = .store 29 (.tmp 8) (.tmp 21)) (d2 : o2.dst = none)
    (h3 : o3.op = .store 32 (.tmp 9) (.tmp 22)) (d3 : o3.dst = none) (e8 : a.eval (.tmp 8) = .pointer (some ⟨g8, 0, none⟩)) (e9 : a.eval (.tmp 9) = .pointer (some ⟨g9, 0, none⟩)) (e10 : a.eval (.tmp 10) = .pointer (some ⟨g10, 0, none⟩)) (e21 : a.eval (.tmp 21) = .agg #[.int .i64 0, .int .i64 0, .int .i64 0, .int .i64 0, .int .i64 0, .int .i64 0, .int .i64 0, .int .i64 0, .int .i64 0, .int .i64 0, .int .i64 0, .int .i64 0, .int .i64 0, .int .i64 0, .int .i64 0, .int .i64 0, .int .i64 0, .slice none 0 0, .int .i64 0])
    (sz : 22 < a.tmps.size) (rg : w.rangeAt g10 0 [.int .i64 er, .int .i64 p]) (t8 : w.there g8 0 19) (t9 : w.there g9 0 2) (ne : g10 ≠ g8) (h : Q .normal (a.put (some 22) (.agg #[.int .i64 er, .int .i64 p])) ((w.setCells g8 0 [.int .i64 0, .int .i64 0, .int .i64 0, .int .i64 0, .int .i64 0, .int .i64 0, .int .i64 0, .int .i64 0, .int .i64 0, .int .i64 0, .int .i64 0, .int .i64 0, .int .i64 0, .int .i64 0, .int .i64 0, .int .i64 0, .int .i64 0, .slice none 0 0, .int .i64 0]).setCells g9 0 [.int .i64 er, .int .i64 p])) :
    o1.wp Tryd.prog a w (fun a w => o2.wp Tryd.prog a w (fun a w => o3.wp Tryd.prog a w (fun a w => Q .normal a w) Q) Q) Q ∧ o2.wp Tryd.prog a w (fun a w => o1.wp Tryd.prog a w (fun a w => o3.wp Tryd.prog a w (fun a w => Q .normal a w) Q) Q) Q := by
  have ev : ∀ k, k ≠ 22 → ∀ v, (a.put (some 22) v).eval (.tmp k) = a.eval (.tmp k) := fun k hk v => Act.eval_put (fun d hd e => hk (by injection hd with hd; subst hd; injection e))
  have es : ∀ v, (a.put (some 22) v).eval (.tmp 22) = v := fun v => by unfold Act.put Act.eval; simp [sz]
  have pn : ∀ (b : Act) v, b.put none v = b := fun _ _ => rfl
  constructor
  · refine load32 (g := g10) (er := er) (p := p) h1 e10 rg ?_
    rw [d1]
    refine store29 (g := g8) h2 ((ev 8 (by decide) _).trans e8) ((ev 21 (by decide) _).trans e21) t8 ?_
    rw [d2, pn]
    refine store32 (g := g9) (er := er) (p := p) h3 ((ev 9 (by decide) _).trans e9) (es _) (World.there_setCells t9 _ _ _) ?_
    rw [d3, pn]
    exact h
  · refine store29 (g := g8) h2 e8 e21 t8 ?_
    rw [d2, pn]
    refine load32 (g := g10) (er := er) (p := p) h1 e10 (World.rangeAt_setCells_apart rg g8 0 [.int .i64 0, .int .i64 0, .int .i64 0, .int .i64 0, .int .i64 0, .int .i64 0, .int .i64 0, .int .i64 0, .int .i64 0, .int .i64 0, .int .i64 0, .int .i64 0, .int .i64 0, .int .i64 0, .int .i64 0, .int .i64 0, .int .i64 0, .slice none 0 0, .int .i64 0] (.inl ne)) ?_
    rw [d1]
    refine store32 (g := g9) (er := er) (p := p) h3 ((ev 9 (by decide) _).trans e9) (es _) (World.there_setCells t9 _ _ _) ?_
    rw [d3, pn]
    exact h
theorem exec_build {P : Program} {ρ : Operand → Value} {o : Oper} (ty : TypeId) (parts : Array (Nat × Operand)) (ho : o.op = .build ty parts) (vals : Array (Nat × Value)) (hx : parts.map (fun (i, x) => (i, ρ x)) = vals) (cells : Array Value)
    (hb : P.built ty vals.toList = some cells) (w : World) : (execOp ρ o).run P w = .ok (.value (.agg cells)) w := by
  unfold execOp
  simp only [ho, hx, Sem.run_bind, run_build w ty vals cells hb, Result.andThen_ok, Sem.run_pure]
set_option maxRecDepth 100000 in
set_option maxHeartbeats 4000000 in
theorem RefRun_err (v0 : Value) (told cells : Nat → Int) (time er p : Int) (he : er ≠ 0) (w : World) (hC : ∀ w', Below w.heap.size w w' → Calls Tryd.prog 14 #[v0] w' fun e w'' => e = .returned (.agg #[.int .i64 er, .int .i64 p]) ∧ Below w'.heap.size w' w'') :
    Calls Tryd.prog 6 #[v0, rwords8 told, rwords16 cells, .int .i64 time] w fun e w' => (∃ v f, e = .returned (.tuple #[v, f]) ∧ RefRanIs w' v f (.inl (er, p))) ∧ Below w.heap.size w w' := by
  have HW0 := Lib.hid (Below.refl w.heap.size w)
  unfold rwords8 rwords16
  have HC := Lib.hid hC
  have HE := Lib.hid he
  have t0 : (er == 0) = false := by rw [beq_eq_false_iff_ne]; exact he
  have t1 : (er != 0) = true := by rw [bne_iff_ne]; exact he
  clear hC he
  go_enter Tryd.func6, Tryd.ntmps6
  go_wp2_with fail
  refine (HC.out _ ?_).mono ?_
  · repeat' (first | with_reducible exact HW0.out | with_reducible refine Below.alloc ?_ ?_ _ | (simp; done) | (simp; omega) | omega)
  rintro e w1 ⟨rfl, hb⟩
  have HW1 := Lib.hid (show Below w.heap.size w w1 from Below.trans (by repeat' (first | with_reducible exact HW0.out | with_reducible refine Below.alloc ?_ ?_ _ | (simp; done) | (simp; omega) | omega)) (hb.mono (by first | (simp; done) | (simp; omega) | omega)))
  have R1 : Img w1 (w.heap.size + 2) 19 rranz := Img.later (Img.alloc (Img.mk2 (by simpa using heap_alloc_new ((w.alloc _).alloc _) _) (by rfl)) _) hb (by simp)
  have F1 : Img w1 (w.heap.size + 3) 2 (fun _ => .int .i64 0) := Img.later (Img.mk2 (by simpa using heap_alloc_new (((w.alloc _).alloc _).alloc _) _) (by rfl)) hb (by simp)
  have z0 : w.heap.size + 3 < w1.heap.size := F1.lt (by omega)
  clear hb
  have HR1 := Lib.hid R1
  have HF1 := Lib.hid F1
  clear R1 F1
  go_upto_region 3 with fail
  generalize hW : World.alloc w1 _ = wd
  have x0 : wd.cell? ⟨w1.heap.size, 0, none⟩ = some (.int .i64 er) := by rw [← hW]; simp [go_sem]
  have x1 : wd.cell? ⟨w1.heap.size, 1, none⟩ = some (.int .i64 p) := by rw [← hW]; simp [go_sem]
  have HWd := Lib.hid (show Below w.heap.size w wd from hW ▸ HW1.out.alloc (by omega) _)
  have HRd := Lib.hid (show Img wd (w.heap.size + 2) 19 rranz from hW ▸ HR1.out.alloc _)
  have HFd := Lib.hid (show Img wd (w.heap.size + 3) 2 (fun _ => .int .i64 0) from hW ▸ HF1.out.alloc _)
  have z1 : w.heap.size + 3 < wd.heap.size := HFd.out.lt (by omega)
  have z2 : w.heap.size + 2 < wd.heap.size := by omega
  clear hW HW1 HR1 HF1
  have HBB := Lib.hid (HWd.out.drew)
  have HTQ := Lib.hid (show wd.drew.there (w.heap.size + 1 + 1) 0 19 from there_img HRd.out.drew)
  have HTG := Lib.hid (show wd.drew.there (w.heap.size + 1 + 1 + 1) 0 2 from there_img HFd.out.drew)
  have rg : wd.drew.rangeAt w1.heap.size 0 [.int .i64 er, .int .i64 p] := by
    intro j v hv
    match j with
    | 0 => simp at hv; subst hv; exact x0
    | 1 => simp at hv; subst hv; exact x1
    | k + 2 => simp at hv
  have HRG := Lib.hid rg
  have HRG2 := Lib.hid (World.rangeAt_setCells_apart rg (w.heap.size + 1 + 1) 0 [.int .i64 0, .int .i64 0, .int .i64 0, .int .i64 0, .int .i64 0, .int .i64 0, .int .i64 0, .int .i64 0, .int .i64 0, .int .i64 0, .int .i64 0, .int .i64 0, .int .i64 0, .int .i64 0, .int .i64 0, .int .i64 0, .int .i64 0, .slice none 0 0, .int .i64 0] (.inl (by omega)))
  clear rg
  refine wp_region_any (by kernel_rfl) ?_
  change wpAny _ _ _ _ _ _ _ (World.drew wd)
  generalize hQ : World.drew wd = wq at *
  clear hQ
  refine wpAny_take (i := 0) (v := .agg #[.int .i64 0, .int .i64 0, .int .i64 0, .int .i64 0, .int .i64 0, .int .i64 0, .int .i64 0, .int .i64 0, .int .i64 0, .int .i64 0, .int .i64 0, .int .i64 0, .int .i64 0, .int .i64 0, .int .i64 0, .int .i64 0, .int .i64 0, .slice none 0 0, .int .i64 0]) rfl (by kernel_rfl) (by kernel_rfl) (by kernel_rfl) (fun _ _ _ h => h) (Or.inl ⟨by rfl, fun w => exec_build 29 _ rfl #[] (by simp) #[.int .i64 0, .int .i64 0, .int .i64 0, .int .i64 0, .int .i64 0, .int .i64 0, .int .i64 0, .int .i64 0, .int .i64 0, .int .i64 0, .int .i64 0, .int .i64 0, .int .i64 0, .int .i64 0, .int .i64 0, .int .i64 0, .int .i64 0, .slice none 0 0, .int .i64 0] built_rranz w⟩) ?_
  refine region_ls' rfl rfl rfl (by kernel_rfl) (by kernel_rfl) (by kernel_rfl) (by kernel_rfl) (by kernel_rfl) (by kernel_rfl) (by kernel_rfl) ?_
  refine tail3 (er := er) (p := p) (g8 := w.heap.size + 1 + 1) (g9 := w.heap.size + 1 + 1 + 1) (g10 := w1.heap.size) rfl rfl rfl rfl rfl rfl ?_ ?_ ?_ ?_ ?_ HRG.out HTQ.out HTG.out (by omega) ?_
  · simp [go_sem]
  · simp [go_sem]
  · simp [go_sem]
  · simp [go_sem]
  · simp [go_sem]
  go_wp2_with fail
  have hl1 : (loadVar 29 ⟨w.heap.size + 1 + 1, 0, none⟩).run Tryd.prog ((wq.setCells (w.heap.size + 1 + 1) 0 [.int .i64 0, .int .i64 0, .int .i64 0, .int .i64 0, .int .i64 0, .int .i64 0, .int .i64 0, .int .i64 0, .int .i64 0, .int .i64 0, .int .i64 0, .int .i64 0, .int .i64 0, .int .i64 0, .int .i64 0, .int .i64 0, .int .i64 0, .slice none 0 0, .int .i64 0]).setCells (w.heap.size + 1 + 1 + 1) 0 [.int .i64 er, .int .i64 p]) = .ok (.agg #[.int .i64 0, .int .i64 0, .int .i64 0, .int .i64 0, .int .i64 0, .int .i64 0, .int .i64 0, .int .i64 0, .int .i64 0, .int .i64 0, .int .i64 0, .int .i64 0, .int .i64 0, .int .i64 0, .int .i64 0, .int .i64 0, .int .i64 0, .slice none 0 0, .int .i64 0]) ((wq.setCells (w.heap.size + 1 + 1) 0 [.int .i64 0, .int .i64 0, .int .i64 0, .int .i64 0, .int .i64 0, .int .i64 0, .int .i64 0, .int .i64 0, .int .i64 0, .int .i64 0, .int .i64 0, .int .i64 0, .int .i64 0, .int .i64 0, .int .i64 0, .int .i64 0, .int .i64 0, .slice none 0 0, .int .i64 0]).setCells (w.heap.size + 1 + 1 + 1) 0 [.int .i64 er, .int .i64 p]) := run_loadVar_mid (P := Tryd.prog) _ (w.heap.size + 1 + 1) 0 29 [.int .i64 0, .int .i64 0, .int .i64 0, .int .i64 0, .int .i64 0, .int .i64 0, .int .i64 0, .int .i64 0, .int .i64 0, .int .i64 0, .int .i64 0, .int .i64 0, .int .i64 0, .int .i64 0, .int .i64 0, .int .i64 0, .int .i64 0, .slice none 0 0, .int .i64 0] _ (World.rangeAt_setCells_apart (World.rangeAt_setCells_same wq (w.heap.size + 1 + 1) 0 [.int .i64 0, .int .i64 0, .int .i64 0, .int .i64 0, .int .i64 0, .int .i64 0, .int .i64 0, .int .i64 0, .int .i64 0, .int .i64 0, .int .i64 0, .int .i64 0, .int .i64 0, .int .i64 0, .int .i64 0, .int .i64 0, .int .i64 0, .slice none 0 0, .int .i64 0] HTQ.out) (w.heap.size + 1 + 1 + 1) 0 [.int .i64 er, .int .i64 p] (.inl (by omega))) Tryd.underlying29 rfl size_rran
  have hl2 : (loadVar 32 ⟨w.heap.size + 1 + 1 + 1, 0, none⟩).run Tryd.prog ((wq.setCells (w.heap.size + 1 + 1) 0 [.int .i64 0, .int .i64 0, .int .i64 0, .int .i64 0, .int .i64 0, .int .i64 0, .int .i64 0, .int .i64 0, .int .i64 0, .int .i64 0, .int .i64 0, .int .i64 0, .int .i64 0, .int .i64 0, .int .i64 0, .int .i64 0, .int .i64 0, .slice none 0 0, .int .i64 0]).setCells (w.heap.size + 1 + 1 + 1) 0 [.int .i64 er, .int .i64 p]) = .ok (.agg #[.int .i64 er, .int .i64 p]) ((wq.setCells (w.heap.size + 1 + 1) 0 [.int .i64 0, .int .i64 0, .int .i64 0, .int .i64 0, .int .i64 0, .int .i64 0, .int .i64 0, .int .i64 0, .int .i64 0, .int .i64 0, .int .i64 0, .int .i64 0, .int .i64 0, .int .i64 0, .int .i64 0, .int .i64 0, .int .i64 0, .slice none 0 0, .int .i64 0]).setCells (w.heap.size + 1 + 1 + 1) 0 [.int .i64 er, .int .i64 p]) := run_loadVar_mid (P := Tryd.prog) _ (w.heap.size + 1 + 1 + 1) 0 32 [.int .i64 er, .int .i64 p] _ (World.rangeAt_setCells_same _ (w.heap.size + 1 + 1 + 1) 0 [.int .i64 er, .int .i64 p] (World.there_setCells HTG.out _ _ _)) Tryd.underlying32 rfl size_fault
  refine bodyPost_ret (results_cell_cell Tryd.results6 (p := ⟨w.heap.size + 1 + 1, 0, none⟩) (q := ⟨w.heap.size + 1 + 1 + 1, 0, none⟩) (by simp [go_sem]) (by simp [go_sem]) hl1 hl2) rfl ⟨⟨_, _, rfl, ?_⟩, ?_⟩
  · exact ⟨rfl, rfl, HE.out⟩
  · exact below_setCells (by omega) _ _ _ _ (below_setCells (by omega) _ _ _ _ HBB.out)
end Go.Proofs.YtfpoicdfkjbknaaDoor.W
