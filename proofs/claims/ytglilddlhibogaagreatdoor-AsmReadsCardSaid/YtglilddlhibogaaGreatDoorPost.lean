/- A row's last step where the call leaves memory that was there as it was (Below), and all else is new: the arguments read as before, the result is a plain one. No conditions beyond the theorem's own. -/
import Derived.Below
import Derived.ChangeSame
namespace Go.Proofs.YtglilddlhibogaaGreatDoor.W
open Go.RowKit Go.WideShapes Go.ChangeShapes
set_option linter.unusedSimpArgs false
set_option linter.unusedVariables false

theorem post_old {H : Type} {enc : TypeId × Value → H} {P : Program} {f : Func} {s : ChangeSpec} {apart fresh handsOn again : Bool} {w w' : World} {args : Array Value} {v : Value} {ds gs : List (DataW H)} {old pa pv : List MemPlace}
  (hb : Below w.heap.size w w') (hW : DataW.Whole enc P f.params.toList s.vars apart w args.toList ds gs old) (hp : old = pa ++ pv)
  (hr : ∀ (b : Nat) (sp : Nat → Bool) (hd : Bool), DataW.TrodAll enc P w' b sp hd f.resultTypes.toList (v.resultList f.resultTypes.size) (s.fn H (ds ++ gs)).results [])
  (ha : ∀ sp : Nat → Bool, (∀ p ∈ old, sp p.block = true) → DataW.TrodAll enc P w' 0 sp true f.params.toList args.toList (s.fn H (ds ++ gs)).args pa)
  (hv : ∀ sp : Nat → Bool, (∀ p ∈ old, sp p.block = true) → DataW.TrodVars enc P w' sp s.vars (s.fn H (ds ++ gs)).vars pv)
  (hok : ∀ (j : Nat) (t : TypeId) (r : Value), f.resultTypes[j]? = some t → (v.resultList f.resultTypes.size)[j]? = some r → Value.okWide P w' .any 0 t r) :
  s.post enc P f apart fresh handsOn again w args v w' := by
 let sp : Nat → Bool := fun b => decide (b < w.heap.size)
 have lt : ∀ p ∈ old, p.block < w.heap.size := fun p h => hW.lt p h
 have osp : ∀ p ∈ old, sp p.block = true := fun p h => decide_eq_true (lt p h)
 have kept : w.keptBut w' (· ∈ old) := hb.frame _
 have all := trodAll_append (ha (fun _ => true) (fun _ _ => rfl)) (hr 0 (fun _ => true) true)
 refine ⟨ds, gs, old, [], pa, pv, hW, hr _ _ _, ha sp osp, hv sp osp, World.keptBut_mono (fun p h => ⟨h, Or.inr ?_⟩) kept, fun _ => ?_⟩
 ·exact List.mem_append.1 (hp ▸ h)
 ·obtain ⟨_, _, _, _, _, hz, hn⟩ := hW
  refine ⟨hok, _, _, [] ++ pa ++ pv, ⟨[] ++ pa, pv, all, hv _ (fun _ _ => rfl), rfl, ?_, ?_⟩, ?_⟩
  ·intro b off h
   have ho : MemPlace.cell b off ∈ old := by rw [hp]; simpa using h
   rw [hb.frozen (lt _ ho)]
   exact hz b off ho
  ·intro h
   have := hn h
   rw [hp] at this
   simpa using this
  ·intro p h _
   rw [hp]
   simpa using h

end Go.Proofs.YtglilddlhibogaaGreatDoor.W
