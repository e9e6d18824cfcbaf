/- BoundCounts: for every input the law returns true, and each argument reads as it did; the variable 'gatehouseref.all' is tied to the program's text (the card). No further conditions. -/
import Derived.Test.YtfmcapmaebfppaaDoorRows
import Derived.Test.YtfmcapmaebfppaaDoorCards
import Derived.Test.YtfmcapmaebfppaaDoorTie
import Derived.WalkKit
import Derived.ProofKit
import Derived.OpenShut
import Derived.LaidMore
import Derived.Lib.LaidU8
import Derived.Stop.Joined
import Derived.Lib.SmallJoins
import Derived.SevenTiedAt
import Derived.Test.YtfmcapmaebfppaaDoorPost
import Derived.Test.YtfmcapmaebfppaaDoorLawBoundCounts
namespace Go.Proofs.YtfmcapmaebfppaaDoor.boundCounts
open Go.ChangeShapes Go.WideShapes Go.ChangeAt Go.RowKit Go.Joins
set_option linter.unusedSimpArgs false
set_option linter.unusedVariables false
set_option linter.unusedVariables false

theorem own : ownKnob Tryd.prog.godebug = none := by kernel_rfl
theorem cellsI : Tryd.prog.cellsOf 2 = 1 := by kernel_rfl
theorem cellsB : Tryd.prog.cellsOf 33 = 2 := by kernel_rfl
theorem cellsR : Tryd.prog.cellsOf 35 = 2 := by kernel_rfl
theorem gAll : Tryd.prog.globalNamed "gatehouse/gatehouseref.all" = some 0 := by kernel_rfl
theorem tAll : (Tryd.prog.globals[(0 : Nat)]?).map (·.type) = some 35 := by kernel_rfl

/-- the integer's bounds, out of its literal -/
theorem in64_lit {a : Int} (h : (Lit.int .i64 a).wf = true) : P.In64 a := by
  simp [Lit.wf, IntKind.min, IntKind.max, IntKind.signed, IntKind.bits] at h
  exact h

/-- a bound reads as its two numbers, in every later world -/
theorem reads_bound {H : Type} {enc : TypeId × Value → H} {l g : Int} (wl : (Lit.int .i64 l).wf = true) (wg : (Lit.int .i64 g).wf = true) (w' : World) (sp : Nat → Bool) :
    DataW.Trod enc Tryd.prog w' 0 sp true 33 (.agg #[.int .i64 l, .int .i64 g]) (.agg [.lit (.int .i64 l), .lit (.int .i64 g)]) [] :=
  shut_agg2 (y0 := (.lit (.int .i64 l), [])) (y1 := (.lit (.int .i64 g), [])) Tryd.underlying33 (by kernel_rfl) cellsB ⟨1, by simp [DataW.trod, Tryd.underlying2, wl]⟩ ⟨1, by simp [DataW.trod, Tryd.underlying2, wg]⟩

/-- what the condition gives the walk: the variable's two cells -/
theorem all_of_laid {W : World} (h : laidMetH Tryd.prog Rows.boundCountsRow.laid W) :
    W.cell? ⟨0, 0, none⟩ = some (.int .i64 (-9223372036854775808)) ∧ W.cell? ⟨0, 1, none⟩ = some (.int .i64 9223372036854775807) := by
  rw [MakeChecks.laidMetH_plain _ _ _ (by kernel_rfl)] at h
  obtain ⟨g, t, cs, fuel, p, e1, e2, e3, e4⟩ := Lib.laidMet.reads h (n := "gatehouse/gatehouseref.all") (d := Rows.laid_gatehouse_gatehouseref_all) (List.mem_singleton.2 rfl)
  obtain rfl := Option.some.inj (gAll.symm.trans e1)
  obtain rfl := Option.some.inj (tAll.symm.trans e2)
  have hc := Lib.ints_of_struct (k := .i64) (zs := [-9223372036854775808, 9223372036854775807]) Tryd.underlying35
    (by intro i f hi; rcases i with _ | _ | i <;> simp at hi <;> subst hi <;> exact ⟨Tryd.underlying2, rfl, cellsI⟩) cellsR e4
  obtain ⟨l⟩ := cs
  have hl : l = [Value.int .i64 (-9223372036854775808), Value.int .i64 9223372036854775807] := hc
  subst hl
  have h0 := World.var?_cell gAll e3 0
  have h1 := World.var?_cell gAll e3 1
  exact ⟨h0, h1⟩

/-- the door's own heap meets the condition -/
theorem door_met (os : Os) (args : Array Value) : laidMetH Tryd.prog Rows.boundCountsRow.laid ((World.doorLaid Tryd.prog 400 os).forCall (fun _ _ => 0) ⟨#[], args, []⟩).memory :=
  laidMetH_of_parts3 (fuel := 8) (laidMet_of_run' 8 (by kernel_rfl) (by kernel_rfl)) (by kernel_rfl) (by kernel_rfl)

/-! the row's step -/
set_option maxRecDepth 100000 in
theorem lifted (os : Os) (started : os.Started) (H : Type) (enc : TypeId × Value → H) :
    ReturnsInHanded {} Tryd.checked os 4 .any (fun w args => (Rows.boundCountsSpec.pre enc Tryd.prog Tryd.f4 [] false w args ∧ laidMetH Tryd.prog Rows.boundCountsRow.laid w) ∧ sizedMet enc Tryd.prog Tryd.f4 (OpenSpec.ofChange Rows.boundCountsSpec) false w args)
      (Rows.boundCountsSpec.post enc Tryd.prog Tryd.f4 false true false false) := by
  refine returnsInHanded_of_change_and (C := Tryd.checked) (X := fun w _ => laidMetH Tryd.prog Rows.boundCountsRow.laid w) (fun _ _ _ hh h => h.of_heap hh) own started (by kernel_rfl) Tryd.func4
    (ChangeSpec.witness_shaped (enc := enc) (C := Tryd.checked) (os := os) (X := fun w _ => laidMetH Tryd.prog Rows.boundCountsRow.laid w) false (World.doorLaid Tryd.prog 400 os) #[.int .i64 0, .agg #[.int .i64 0, .int .i64 0], .agg #[.int .i64 0, .int .i64 0], .int .i64 0] 8 rfl (World.shaped_of_RefB (by kernel_rfl) (by kernel_rfl)) (by kernel_rfl) (by kernel_rfl) (by kernel_rfl) (door_met os _)) ?_
  intro W base args ds gs before hval0 hW _ _ hL _
  have hval : ∀ (j : Nat) t v, Tryd.f4.params[j]? = some t → args[j]? = some v → Value.okWide Tryd.prog W .any base t v := hval0
  have hW' := hW
  obtain ⟨p, q, hA0, hV, rfl, hfz, hnd⟩ := hW
  have hA : DataW.TrodAll enc Tryd.prog W 0 (fun _ => true) true Tryd.f4.params.toList args.toList ds p := hA0
  rw [Tryd.params4] at hA hval
  obtain ⟨v0, vs0, d0, ds0, p0, q0, hargs, rfl, rfl, h0, r0⟩ := trodAll_cons hA
  obtain ⟨v1, vs1, d1, ds1, p1, q1, rfl, rfl, rfl, h1, r1⟩ := trodAll_cons r0
  obtain ⟨v2, vs2, d2, ds2, p2, q2, rfl, rfl, rfl, h2, r2⟩ := trodAll_cons r1
  obtain ⟨v3, vs3, d3, ds3, p3, q3, rfl, rfl, rfl, h3, r3⟩ := trodAll_cons r2
  obtain ⟨rfl, rfl, rfl⟩ := trodAll_nil r3
  obtain rfl : args = #[v0, v1, v2, v3] := by cases args; simp_all
  obtain ⟨rfl, rfl⟩ := trodVars_none hV
  obtain ⟨c, rfl, rfl, rfl, w0⟩ := open_int Tryd.underlying3 (hval 0 3 v0 rfl rfl) h0
  obtain ⟨x0, x1, y0, y1, m, rfl, rfl, rfl, f0, f1⟩ := open_agg2 Tryd.underlying33 (by kernel_rfl) cellsB (hval 1 33 v1 rfl rfl) h1
  obtain ⟨al, e0, rfl, wal⟩ := DataW.trod_int Tryd.underlying2 f0
  obtain ⟨ah, e1, rfl, wah⟩ := DataW.trod_int Tryd.underlying2 f1
  simp at e0 e1
  subst e0 e1
  obtain ⟨x2, x3, y2, y3, m2, rfl, rfl, rfl, f2, f3⟩ := open_agg2 Tryd.underlying33 (by kernel_rfl) cellsB (hval 2 33 v2 rfl rfl) h2
  obtain ⟨bl, e2, rfl, wbl⟩ := DataW.trod_int Tryd.underlying2 f2
  obtain ⟨bh, e3, rfl, wbh⟩ := DataW.trod_int Tryd.underlying2 f3
  simp at e2 e3
  subst e2 e3
  obtain ⟨x, rfl, rfl, rfl, w3⟩ := open_int Tryd.underlying2 (hval 3 2 v3 rfl rfl) h3
  obtain ⟨hg0, hg1⟩ := all_of_laid hL
  clear hA0 hval0
  simp only [List.append_nil] at hW'
  refine (Go.Proofs.YtfmcapmaebfppaaDoor.W.counts_walk c al ah bl bh x (in64_lit wal) (in64_lit wah) (in64_lit wbl) (in64_lit wbh) (in64_lit w3) W hg0 hg1 (block_lt_of_cell hg0)).mono fun e W' ⟨he, hb⟩ => ?_
  subst he
  exact ⟨_, rfl, Go.Proofs.YtfmcapmaebfppaaDoor.W.post_old (pa := []) (pv := []) hb hW' rfl (fun _ _ _ => (trodAll_cons_mk (shut_bool Tryd.underlying4 _) trodAll_mk0))
    (fun sp _ => (trodAll_cons_mk (shut_int Tryd.underlying3 w0) (trodAll_cons_mk (reads_bound wal wah _ sp) (trodAll_cons_mk (reads_bound wbl wbh _ sp) (trodAll_cons_mk (shut_int Tryd.underlying2 w3) trodAll_mk0)))))
    (fun _ _ => rfl) (ok_one (by kernel_rfl) rfl (okWide_bool_mk Tryd.underlying4 _))⟩

theorem over : Rows.BoundCountsSaid :=
  OpenClaim.holds_of_wide 4 Tryd.f4 rfl rfl rfl rfl rfl rfl rfl ⟨rfl, rfl, rfl, rfl, rfl⟩ rfl rfl rfl rfl rfl (by kernel_rfl) Tryd.func4 (by kernel_rfl)
    (of_decide_eq_true (by kernel_rfl)) (by unfold Func.isWrapper; first | (rw [if_pos (by decide +kernel)]; kernel_rfl) | (rw [if_neg (by decide +kernel)]; exact ⟨rfl, rfl⟩))
    (fun os started H enc _ => lifted os started H enc)

/-- THE STATEMENT: the tied card -/
theorem proved : Rows.BoundCountsCardSaid :=
  Claim7.holds_tied_plain_at .later [] [.data] true _ true
    over (fun _ h => by cases h) (by kernel_rfl) (fun _ h => by cases h) boundCounts_row_tie rfl ⟨rfl, rfl⟩ (by kernel_rfl) rfl
    (fun f fn hf hfn => by
      obtain rfl : f = 4 := Option.some.inj ((show Tryd.prog.funcNamed "gatehouse/gatehouselaw.BoundCounts" = some 4 by kernel_rfl).symm.trans hf) |>.symm
      obtain rfl : fn = Tryd.f4 := (Option.some.inj (Tryd.func4.symm.trans hfn)).symm
      refine ⟨by kernel_rfl, fun j t ht => ?_⟩
      rw [Tryd.params4] at ht
      rcases j with _ | _ | _ | _ | j <;> simp at ht <;> subst ht <;> kernel_rfl)
    (by kernel_rfl)
#print axioms proved
end Go.Proofs.YtfmcapmaebfppaaDoor.boundCounts
