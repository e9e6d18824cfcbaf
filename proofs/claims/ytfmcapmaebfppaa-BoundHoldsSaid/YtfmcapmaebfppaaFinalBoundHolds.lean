/- BoundHolds: for every input the law returns true, and each argument reads as it did. No conditions. -/
import Derived.Test.YtfmcapmaebfppaaRows
import Derived.WalkKit
import Derived.ProofKit
import Derived.OpenShut
import Derived.Lib.SmallJoins
import Derived.Test.YtfmcapmaebfppaaPost
import Derived.Test.YtfmcapmaebfppaaLawBoundHolds
namespace Go.Proofs.Ytfmcapmaebfppaa.boundHolds
open Go.ChangeShapes Go.WideShapes Go.ChangeAt Go.RowKit Go.Joins
set_option linter.unusedSimpArgs false
set_option linter.unusedVariables false
set_option linter.unusedVariables false

theorem own : ownKnob Try.prog.godebug = none := by kernel_rfl
theorem cellsI : Try.prog.cellsOf 2 = 1 := by kernel_rfl
theorem cellsB : Try.prog.cellsOf 31 = 2 := by kernel_rfl

/-- the integer's bounds, out of its literal -/
theorem in64_lit {a : Int} (h : (Lit.int .i64 a).wf = true) : P.In64 a := by
  simp [Lit.wf, IntKind.min, IntKind.max, IntKind.signed, IntKind.bits] at h
  exact h

/-- a bound reads as its two numbers, in every later world -/
theorem reads_bound {H : Type} {enc : TypeId × Value → H} {l g : Int} (wl : (Lit.int .i64 l).wf = true) (wg : (Lit.int .i64 g).wf = true) (w' : World) (sp : Nat → Bool) :
    DataW.Trod enc Try.prog w' 0 sp true 31 (.agg #[.int .i64 l, .int .i64 g]) (.agg [.lit (.int .i64 l), .lit (.int .i64 g)]) [] :=
  shut_agg2 (y0 := (.lit (.int .i64 l), [])) (y1 := (.lit (.int .i64 g), [])) Try.underlying31 (by kernel_rfl) cellsB ⟨1, by simp [DataW.trod, Try.underlying2, wl]⟩ ⟨1, by simp [DataW.trod, Try.underlying2, wg]⟩

/-! the row's step -/
set_option maxRecDepth 100000 in
theorem lifted (os : Os) (started : os.Started) (H : Type) (enc : TypeId × Value → H) :
    ReturnsInHanded {} Try.checked os 5 .any (Rows.boundHoldsSpec.pre6 enc Try.prog Try.f5 Rows.boundHoldsRow.domain false) (Rows.boundHoldsSpec.post enc Try.prog Try.f5 false true false false) := by
  refine returnsInHanded_of_change (C := Try.checked) own started (by kernel_rfl) Try.func5
    (ChangeSpec.witness6 (enc := enc) (C := Try.checked) false ⟨#[], #[.int .i64 0, .agg #[.int .i64 0, .int .i64 0], .agg #[.int .i64 0, .int .i64 0], .int .i64 0, .int .i64 0], []⟩ 8 (by kernel_rfl) (by kernel_rfl) (by kernel_rfl) (by kernel_rfl)) ?_
  intro W base args ds gs before hval0 hW hcnd _
  have hval : ∀ (j : Nat) t v, Try.f5.params[j]? = some t → args[j]? = some v → Value.okWide Try.prog W .any base t v := hval0
  have hW' := hW
  obtain ⟨p, q, hA0, hV, rfl, hfz, hnd⟩ := hW
  have hA : DataW.TrodAll enc Try.prog W 0 (fun _ => true) true Try.f5.params.toList args.toList ds p := hA0
  rw [Try.params5] at hA hval
  obtain ⟨v0, vs0, d0, ds0, p0, q0, hargs, rfl, rfl, h0, r0⟩ := trodAll_cons hA
  obtain ⟨v1, vs1, d1, ds1, p1, q1, rfl, rfl, rfl, h1, r1⟩ := trodAll_cons r0
  obtain ⟨v2, vs2, d2, ds2, p2, q2, rfl, rfl, rfl, h2, r2⟩ := trodAll_cons r1
  obtain ⟨v3, vs3, d3, ds3, p3, q3, rfl, rfl, rfl, h3, r3⟩ := trodAll_cons r2
  obtain ⟨v4, vs4, d4, ds4, p4, q4, rfl, rfl, rfl, h4, r4⟩ := trodAll_cons r3
  obtain ⟨rfl, rfl, rfl⟩ := trodAll_nil r4
  obtain rfl : args = #[v0, v1, v2, v3, v4] := by cases args; simp_all
  obtain ⟨rfl, rfl⟩ := trodVars_none hV
  obtain ⟨c, rfl, rfl, rfl, w0⟩ := open_int Try.underlying3 (hval 0 3 v0 rfl rfl) h0
  obtain ⟨x0, x1, y0, y1, m, rfl, rfl, rfl, f0, f1⟩ := open_agg2 Try.underlying31 (by kernel_rfl) cellsB (hval 1 31 v1 rfl rfl) h1
  obtain ⟨al, e0, rfl, wal⟩ := DataW.trod_int Try.underlying2 f0
  obtain ⟨ah, e1, rfl, wah⟩ := DataW.trod_int Try.underlying2 f1
  simp at e0 e1
  subst e0 e1
  obtain ⟨x2, x3, y2, y3, m2, rfl, rfl, rfl, f2, f3⟩ := open_agg2 Try.underlying31 (by kernel_rfl) cellsB (hval 2 31 v2 rfl rfl) h2
  obtain ⟨bl, e2, rfl, wbl⟩ := DataW.trod_int Try.underlying2 f2
  obtain ⟨bh, e3, rfl, wbh⟩ := DataW.trod_int Try.underlying2 f3
  simp at e2 e3
  subst e2 e3
  obtain ⟨x, rfl, rfl, rfl, w3⟩ := open_int Try.underlying2 (hval 3 2 v3 rfl rfl) h3
  obtain ⟨y, rfl, rfl, rfl, w4⟩ := open_int Try.underlying2 (hval 4 2 v4 rfl rfl) h4
  clear hA0 hval0
  simp only [List.append_nil] at hW'
  refine (Go.Proofs.Ytfmcapmaebfppaa.W.holds_walk c al ah bl bh x y (in64_lit wal) (in64_lit wah) (in64_lit wbl) (in64_lit wbh) (in64_lit w3) (in64_lit w4) W).mono fun e W' ⟨he, hb⟩ => ?_
  subst he
  exact ⟨_, rfl, Go.Proofs.Ytfmcapmaebfppaa.W.post_old (pa := []) (pv := []) hb hW' rfl (fun _ _ _ => (trodAll_cons_mk (shut_bool Try.underlying4 _) trodAll_mk0))
    (fun sp _ => (trodAll_cons_mk (shut_int Try.underlying3 w0) (trodAll_cons_mk (reads_bound wal wah _ sp) (trodAll_cons_mk (reads_bound wbl wbh _ sp) (trodAll_cons_mk (shut_int Try.underlying2 w3) (trodAll_cons_mk (shut_int Try.underlying2 w4) trodAll_mk0))))))
    (fun _ _ => rfl) (ok_one (by kernel_rfl) rfl (okWide_bool_mk Try.underlying4 _))⟩

theorem over : Rows.boundHoldsRow.holds Try.pinned (OpenSpec.ofChange Rows.boundHoldsSpec) :=
  OpenClaim.holds_of_wide 5 Try.f5 rfl rfl rfl rfl rfl rfl rfl ⟨rfl, rfl, rfl, rfl, rfl⟩ rfl rfl rfl rfl rfl (by kernel_rfl) Try.func5 (by kernel_rfl)
    (of_decide_eq_true (by kernel_rfl)) (by unfold Func.isWrapper; first | (rw [if_pos (by decide +kernel)]; kernel_rfl) | (rw [if_neg (by decide +kernel)]; exact ⟨rfl, rfl⟩))
    (fun os started H enc _ => lifted os started H enc)

/-- THE STATEMENT -/
theorem proved : Rows.BoundHoldsSaid :=
  over
#print axioms proved
end Go.Proofs.Ytfmcapmaebfppaa.boundHolds
