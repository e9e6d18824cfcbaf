/- AsmBack: for every input the law returns true, and each argument reads as it did; the variable errors.errorType, strconv's two errors, the tables of names and those that numbers' texts are made of are tied to the program's text (the card). No further conditions. -/
import Derived.Test.YtpdlmbbgioenoaaGreatDoorRows
import Derived.Test.YtpdlmbbgioenoaaGreatDoorCards
import Derived.Test.YtpdlmbbgioenoaaGreatDoorTie
import Derived.Test.YtpdlmbbgioenoaaGreatDoorReads
import Derived.Test.YtpdlmbbgioenoaaGreatDoorLaidB3
import Derived.Test.YtpdlmbbgioenoaaGreatDoorPost
import Derived.Test.YtpdlmbbgioenoaaGreatDoorLawAsmBack
import Derived.Test.YtpdlmbbgioenoaaGreatDoorClosedAsmBack
import Derived.ChangeMaps5
namespace Go.Proofs.YtpdlmbbgioenoaaGreatDoor.asmBack
open Go.ChangeShapes Go.WideShapes Go.ChangeAt Go.RowKit Go.Joins Go.Deep Go.Proofs.YtpdlmbbgioenoaaGreatDoor.R
set_option linter.unusedSimpArgs false
set_option linter.unusedVariables false
set_option linter.unusedVariables false

theorem own : ownKnob Tryz.prog.godebug = none := by kernel_rfl
/-! the row's step -/
set_option maxRecDepth 100000 in
theorem lifted (os : Os) (started : os.Started) (H : Type) (enc : TypeId × Value → H) :
  ReturnsInHanded {} Tryz.checked os 5 .any (fun w args => (Rows.asmBackSpec.pre enc Tryz.prog Tryz.f5 [] false w args ∧ laidMetH Tryz.prog Rows.asmBackRow.laid w) ∧ sizedMet enc Tryz.prog Tryz.f5 (OpenSpec.ofChange Rows.asmBackSpec) false w args)
   (Rows.asmBackSpec.post enc Tryz.prog Tryz.f5 false true false false) := by
 refine returnsInHanded_of_change_and (C := Tryz.checked) (X := fun w _ => laidMetH Tryz.prog Rows.asmBackRow.laid w) (fun _ _ _ hh h => h.of_heap hh) own started (by kernel_rfl) Tryz.func5
  (ChangeSpec.witness_shaped (enc := enc) (C := Tryz.checked) (os := os) (X := fun w _ => laidMetH Tryz.prog Rows.asmBackRow.laid w) false (LaidB3.doorW os) #[.slice none 0 0, .string ⟨#[]⟩] 8 (LaidB3.doorW_os os) (LaidB3.door_shaped os _) (by kernel_rfl) (by kernel_rfl) (by kernel_rfl) (LaidB3.door_met os _)) ?_
 intro W base args ds gs before hval0 hW _ _ hL _
 have hval : ∀ (j : Nat) t v, Tryz.f5.params[j]? = some t → args[j]? = some v → Value.okWide Tryz.prog W .any base t v := hval0
 have hW' := hW
 obtain ⟨p, q, hA0, hV, rfl, hfz, hnd⟩ := hW
 have hA : DataW.TrodAll enc Tryz.prog W 0 (fun _ => true) true Tryz.f5.params.toList args.toList ds p := hA0
 rw [Tryz.params5] at hA hval
 obtain ⟨v0, vs0, d0, ds0, p0, q0, hargs, rfl, rfl, h0, r0⟩ := trodAll_cons hA
 obtain ⟨v1, vs1, d1, ds1, p1, q1, h01, rfl, rfl, h1, r1⟩ := trodAll_cons r0
 obtain ⟨rfl, rfl, rfl⟩ := trodAll_nil r1
 obtain rfl : args = #[v0, v1] := by cases args; simp_all
 obtain ⟨rfl, rfl⟩ := trodVars_none hV
 obtain ⟨a0, len0, cap0, rfl⟩ := okWide_slice Tryz.underlying33 (hval 0 33 v0 rfl rfl)
 obtain ⟨s1, rfl, rfl, rfl, w1⟩ := Go.ChangeMaps.open_string Tryz.underlying9 (hval 1 9 v1 rfl rfl) h1
 have hg := LaidB3.handle hL
 have ha := LaidB3.tabs hL
 have hr := LaidB3.rtabs hL
 have hlt : ∀ x ∈ p0 ++ ([] ++ []), x.block < W.heap.size := fun x hx => hW'.lt x (by simpa using hx)
 have fin : ∀ W' : World, Below W.heap.size W W' → Rows.asmBackSpec.post enc Tryz.prog Tryz.f5 false true false false W #[.slice a0 len0 cap0, .string s1] (.bool true) W' := fun W' hb =>
  Go.Proofs.YtpdlmbbgioenoaaGreatDoor.W.post_old (pa := p0 ++ ([] ++ [])) (pv := []) hb hW' rfl (fun _ _ _ => (trodAll_cons_mk (shut_bool Tryz.underlying4 _) trodAll_mk0))
   (fun sp hsp => trodAll_cons_mk (WideElems.Trod_stays laidOut (by kernel_rfl) (of_decide_eq_true (by kernel_rfl)) h0 (fun x hx => hb.same (hlt x (by simp [hx]))) (fun x hx => hsp x (by simp [hx]))) (trodAll_cons_mk (WideElems.Trod_stays laidOut (by kernel_rfl) (of_decide_eq_true (by kernel_rfl)) h1 (fun x hx => by cases hx) (fun x hx => by cases hx)) trodAll_mk0))
   (fun _ _ => rfl) (ok_one (by kernel_rfl) rfl (okWide_bool_mk Tryz.underlying4 _))
 clear hA0 hval0
 obtain ⟨fuel, hf⟩ := h0
 have main : len0 ≤ cap0 ∧ ∃ S, (0 < len0 → ∃ a, a0 = some a ∧ Go.Proofs.YtpdlmbbgioenoaaGreatDoor.W.Cells W a S len0) ∧ ∀ j, j < len0 → P.In64 (S j).dst ∧ P.In64 (S j).src ∧ P.In64 (S j).off ∧ P.In64 (S j).num := by
  rcases steps_of_reads (show DataW.trod enc Tryz.prog W 0 (fun _ => true) true fuel 33 [.slice a0 len0 cap0] = some (d0, p0) by simpa [Value.cells] using hf) with h1 | ⟨a, len, cap, S, h1, hl, hs, hi⟩
  ·simp only [Value.slice.injEq] at h1
   obtain ⟨rfl, rfl, rfl⟩ := h1
   exact ⟨Nat.le_refl _, fun _ => ⟨0, 0, 0, false, 0, 0⟩, fun h => by omega, fun j h => by omega⟩
  ·simp only [Value.slice.injEq] at h1
   obtain ⟨rfl, rfl, rfl⟩ := h1
   exact ⟨hl, S, fun _ => ⟨a, rfl, hs⟩, hi⟩
 obtain ⟨hcap, S, hs, hin⟩ := main
 have hbs : P.bs s1.data.toList = s1 := Lib.mk_data s1
 by_cases hbig : 300 < len0 ∨ 1500 < s1.data.toList.length
 ·have K := Go.Proofs.YtpdlmbbgioenoaaGreatDoor.W.asmBack_big a0 len0 cap0 s1.data.toList hbig W
  rw [hbs] at K
  refine K.mono fun e W' ⟨he, hb⟩ => ?_
  subst he
  exact ⟨_, rfl, fin W' hb⟩
 ·have K := Go.Proofs.YtpdlmbbgioenoaaGreatDoor.W.asmBack_walk a0 len0 cap0 S hcap (fun h => hbig (.inl h)) s1.data.toList (fun h => hbig (.inr h)) W hs hin hr ha hg
  rw [hbs] at K
  refine K.mono fun e W' ⟨he, hb⟩ => ?_
  subst he
  exact ⟨_, rfl, fin W' hb⟩

theorem over : Rows.AsmBackSaid :=
 OpenClaim.holds_of_wide 5 Tryz.f5 rfl rfl rfl rfl rfl rfl rfl ⟨rfl, rfl, rfl, rfl, rfl⟩ rfl rfl rfl rfl rfl (by kernel_rfl) Tryz.func5 asmBackClosed.closed
  (of_decide_eq_true (by kernel_rfl)) (by unfold Func.isWrapper; first | (rw [if_pos (by decide +kernel)]; kernel_rfl) | (rw [if_neg (by decide +kernel)]; exact ⟨rfl, rfl⟩))
  (fun os started H enc _ => lifted os started H enc)

/-- THE STATEMENT: the tied card -/
theorem proved : Rows.AsmBackCardSaid :=
 Claim7.holds_tied_plain_at .later [] [.data, .data, .data, .data, .handle, .sentinel, .sentinel, .widerDeep, .widerDeep, .pinned] true _ true
  over (fun _ h => by cases h) (by kernel_rfl) (fun _ h => by cases h) asmBack_row_tie rfl ⟨rfl, rfl⟩ (by kernel_rfl) rfl
  (fun f fn hf hfn => by
   obtain rfl : f = 5 := Option.some.inj ((show Tryz.prog.funcNamed "gatehouse/gatehousekeep.AsmBack" = some 5 by kernel_rfl).symm.trans hf) |>.symm
   obtain rfl : fn = Tryz.f5 := (Option.some.inj (Tryz.func5.symm.trans hfn)).symm
   exact ⟨by kernel_rfl, fun j t ht => by
    rw [Tryz.params5] at ht
    have hm : t ∈ [33, 9] := by simpa using Array.mem_of_getElem? ht
    have hall : ([33, 9].all fun u => !Tryz.prog.wantsStandIn u) = true := by kernel_rfl
    exact (show Tryz.prog.wantsStandIn t = false by simpa using List.all_eq_true.1 hall t hm)⟩)
  (by kernel_rfl)
#print axioms proved
end Go.Proofs.YtpdlmbbgioenoaaGreatDoor.asmBack
