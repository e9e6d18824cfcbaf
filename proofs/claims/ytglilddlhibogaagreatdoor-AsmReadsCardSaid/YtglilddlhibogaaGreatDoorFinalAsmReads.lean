/- AsmReads: for every input the law returns true, and each argument reads as it did; the variable errors.errorType, strconv's two errors, the tables of names and those that numbers' texts are made of are tied to the program's text (the card). No further conditions. -/
import Derived.Test.YtglilddlhibogaaGreatDoorRows
import Derived.Test.YtglilddlhibogaaGreatDoorCards
import Derived.Test.YtglilddlhibogaaGreatDoorTie
import Derived.Test.YtglilddlhibogaaGreatDoorLaidB2
import Derived.Test.YtglilddlhibogaaGreatDoorPost
import Derived.Test.YtglilddlhibogaaGreatDoorLawAsmReads
import Derived.Test.YtglilddlhibogaaGreatDoorClosedAsmReads
import Derived.ChangeMaps5
namespace Go.Proofs.YtglilddlhibogaaGreatDoor.asmReads
open Go.ChangeShapes Go.WideShapes Go.ChangeAt Go.RowKit Go.Joins Go.Deep
set_option linter.unusedSimpArgs false
set_option linter.unusedVariables false
set_option linter.unusedVariables false

theorem laidOut : laidOutB Tryz.prog = true := by kernel_rfl
theorem own : ownKnob Tryz.prog.godebug = none := by kernel_rfl
/-! the row's step -/
set_option maxRecDepth 100000 in
theorem lifted (os : Os) (started : os.Started) (H : Type) (enc : TypeId × Value → H) :
  ReturnsInHanded {} Tryz.checked os 4 .any (fun w args => (Rows.asmReadsSpec.pre enc Tryz.prog Tryz.f4 [] false w args ∧ laidMetH Tryz.prog Rows.asmReadsRow.laid w) ∧ sizedMet enc Tryz.prog Tryz.f4 (OpenSpec.ofChange Rows.asmReadsSpec) false w args)
   (Rows.asmReadsSpec.post enc Tryz.prog Tryz.f4 false true false false) := by
 refine returnsInHanded_of_change_and (C := Tryz.checked) (X := fun w _ => laidMetH Tryz.prog Rows.asmReadsRow.laid w) (fun _ _ _ hh h => h.of_heap hh) own started (by kernel_rfl) Tryz.func4
  (ChangeSpec.witness_shaped (enc := enc) (C := Tryz.checked) (os := os) (X := fun w _ => laidMetH Tryz.prog Rows.asmReadsRow.laid w) false (LaidB2.doorW os) #[.string ⟨#[]⟩] 8 (LaidB2.doorW_os os) (LaidB2.door_shaped os _) (by kernel_rfl) (by kernel_rfl) (by kernel_rfl) (LaidB2.door_met os _)) ?_
 intro W base args ds gs before hval0 hW _ _ hL _
 have hval : ∀ (j : Nat) t v, Tryz.f4.params[j]? = some t → args[j]? = some v → Value.okWide Tryz.prog W .any base t v := hval0
 have hW' := hW
 obtain ⟨p, q, hA0, hV, rfl, hfz, hnd⟩ := hW
 have hA : DataW.TrodAll enc Tryz.prog W 0 (fun _ => true) true Tryz.f4.params.toList args.toList ds p := hA0
 rw [Tryz.params4] at hA hval
 obtain ⟨v0, vs0, d0, ds0, p0, q0, hargs, rfl, rfl, h0, r0⟩ := trodAll_cons hA
 obtain ⟨rfl, rfl, rfl⟩ := trodAll_nil r0
 obtain rfl : args = #[v0] := by cases args; simp_all
 obtain ⟨rfl, rfl⟩ := trodVars_none hV
 obtain ⟨s1, rfl, rfl, rfl, w1⟩ := Go.ChangeMaps.open_string Tryz.underlying9 (hval 0 9 v0 rfl rfl) h0
 have hg := LaidB2.handle hL
 have hr := LaidB2.rtabs hL
 have hf := LaidB2.ftabs hL
 have fin : ∀ W' : World, Below W.heap.size W W' → Rows.asmReadsSpec.post enc Tryz.prog Tryz.f4 false true false false W #[.string s1] (.bool true) W' := fun W' hb =>
  Go.Proofs.YtglilddlhibogaaGreatDoor.W.post_old (pa := [] ++ []) (pv := []) hb hW' rfl (fun _ _ _ => (trodAll_cons_mk (shut_bool Tryz.underlying4 _) trodAll_mk0))
   (fun sp hsp => trodAll_cons_mk (WideElems.Trod_stays laidOut (by kernel_rfl) (of_decide_eq_true (by kernel_rfl)) h0 (fun x hx => by cases hx) (fun x hx => by cases hx)) trodAll_mk0)
   (fun _ _ => rfl) (ok_one (by kernel_rfl) rfl (okWide_bool_mk Tryz.underlying4 _))
 clear hA0 hval0
 have hbs : P.bs s1.data.toList = s1 := Lib.mk_data s1
 by_cases hbig : 1500 < s1.data.toList.length
 ·have K := Go.Proofs.YtglilddlhibogaaGreatDoor.W.asmReads_big s1.data.toList hbig W
  rw [hbs] at K
  refine K.mono fun e W' ⟨he, hb⟩ => ?_
  subst he
  exact ⟨_, rfl, fin W' hb⟩
 ·have K := Go.Proofs.YtglilddlhibogaaGreatDoor.W.asmReads_walk s1.data.toList hbig W hr hf hg
  rw [hbs] at K
  refine K.mono fun e W' ⟨he, hb⟩ => ?_
  subst he
  exact ⟨_, rfl, fin W' hb⟩

theorem over : Rows.AsmReadsSaid :=
 OpenClaim.holds_of_wide 4 Tryz.f4 rfl rfl rfl rfl rfl rfl rfl ⟨rfl, rfl, rfl, rfl, rfl⟩ rfl rfl rfl rfl rfl (by kernel_rfl) Tryz.func4 asmReadsClosed.closed
  (of_decide_eq_true (by kernel_rfl)) (by unfold Func.isWrapper; first | (rw [if_pos (by decide +kernel)]; kernel_rfl) | (rw [if_neg (by decide +kernel)]; exact ⟨rfl, rfl⟩))
  (fun os started H enc _ => lifted os started H enc)

/-- THE STATEMENT: the tied card -/
theorem proved : Rows.AsmReadsCardSaid :=
 Claim7.holds_tied_plain_at .later [] [.data, .data, .data, .data, .handle, .sentinel, .sentinel, .widerDeep, .widerDeep, .data, .data, .pinned] true _ true
  over (fun _ h => by cases h) (by kernel_rfl) (fun _ h => by cases h) asmReads_row_tie rfl ⟨rfl, rfl⟩ (by kernel_rfl) rfl
  (fun f fn hf hfn => by
   obtain rfl : f = 4 := Option.some.inj ((show Tryz.prog.funcNamed "gatehouse/gatehouselaw.AsmReads" = some 4 by kernel_rfl).symm.trans hf) |>.symm
   obtain rfl : fn = Tryz.f4 := (Option.some.inj (Tryz.func4.symm.trans hfn)).symm
   exact ⟨by kernel_rfl, fun j t ht => by
    rw [Tryz.params4] at ht
    have hm : t ∈ [9] := by simpa using Array.mem_of_getElem? ht
    have hall : ([9].all fun u => !Tryz.prog.wantsStandIn u) = true := by kernel_rfl
    exact (show Tryz.prog.wantsStandIn t = false by simpa using List.all_eq_true.1 hall t hm)⟩)
  (by kernel_rfl)
#print axioms proved
end Go.Proofs.YtglilddlhibogaaGreatDoor.asmReads
