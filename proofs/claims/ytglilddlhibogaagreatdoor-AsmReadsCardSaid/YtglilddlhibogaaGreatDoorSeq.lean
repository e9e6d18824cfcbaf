/- A range over a function whose iterator keeps a variable of its own in a cell: the statement's law. No program in sight. No conditions. -/
import Derived.RangeFuncNested
import Derived.RangeFuncLeaves
import Derived.Test.YtglilddlhibogaaGreatDoorImg
namespace Go.Proofs.YtglilddlhibogaaGreatDoor.W
open Go.RowKit Go.Proofs.YtglilddlhibogaaGreatDoor.P
set_option linter.unusedSimpArgs false
set_option linter.unusedVariables false

/-- an iterator that gives the elements xs, each once, in their order; it writes one block of its own, b; Kp: what a round that goes on keeps for it -/
def SeqBut {α : Type} (F : Fence) (n : Nat) (P : Program) (g : Nat) (lb : Array Value) (enc : α → Value) (b : Nat) (Kp : World → World → Prop) (xs : List α) (W0 : World) : Prop :=
 ∀ (l : Nat) (J Jx : List α → World → Prop) (W : World), Below W0.heap.size W0 W → (∀ s A v, J s A → J s (A.setCell ⟨b, 0, none⟩ v)) →
  (∀ pre x V, J pre V → (pre ++ [x]) <+: xs → YieldAt F (n - 1) P l #[enc x] V fun e V' =>
   (e = .returned (.bool true) ∧ J (pre ++ [x]) V' ∧ Kp V V') ∨ (e = .returned (.bool false) ∧ Jx (pre ++ [x]) V')) →
  J [] W →
  CallsIn F n P g (#[.func (.yield l) #[] #[]] ++ lb) W fun e V => (∃ v, e = .returned v) ∧ (J xs V ∨ ∃ pre, pre <+: xs ∧ Jx pre V)

/-- how a round's body may be left: at its end, or by the function's return -/
def roundEnd {α : Type} (m : Nat) (Kp : World → World → Prop) (I Ix : List α → World → Prop) (pre : List α) (W : World) : Exit → Act → World → Prop
 | .normal, _, V => KeepsFrom m W V ∧ Kp W V ∧ I pre V
 | .ret, _, V => KeepsFrom m W V ∧ Ix pre V
 | _, _, _ => False

variable {F : Fence} {n : Nat} {P : Program}
theorem put_of {β : Type} {B : Nat} {I : β → World → Prop} (h : OwnFrom B I) {s : β} {W : World} {l : Nat} {o : Obj} (o' : Obj) (hs : I s W) (hB : B ≤ l) (hl : W.heap[l]? = some o) (ho : o.isCells = false) : I s (W.putObj l o') := h.putObj o' hs hB hl ho

theorem wpIn_range_but {α : Type} {g : Operand} {ps : Array Tmp} {assign body : Code} {Q : Exit → Act → World → Prop} {a : Act} {w : World}
  (hro : F.round = none) (h1 : 1 ≤ n) {gf : Nat} {lb : Array Value} (hg : a.eval g = .func (.func gf) #[] lb) (hFg : F.fn gf) (eg : ∀ args w, (callFunc gf args).run P w = .ok (.enter gf args) w)
  {enc : α → Value} {b : Nat} {Kp : World → World → Prop} {xs : List α} (hb : b < w.heap.size) (hseq : SeqBut F (n - 1) P gf lb enc b Kp xs w)
  (hKt : ∀ {A B C : World}, Kp A B → Kp B C → Kp A C) (hKb : ∀ (W : World) (l : Nat) (o : Obj), w.heap.size ≤ l → Kp W (W.putObj l o)) (hps : ps.size = 1)
  (I Ix : List α → World → Prop) (hI : OwnFrom w.heap.size I) (hIx : OwnFrom w.heap.size Ix) (hIb : ∀ s A v, I s A → I s (A.setCell ⟨b, 0, none⟩ v)) (h0 : I [] w) (a₁ : α → Act)
  (hassign : ∀ (l : Nat) (x : α) (W : World) (K : Act → World → Prop), K (a₁ x) W →
   assign.wpIn (F.inRound l) (n - 1 - 1) P (Exit.then K (fun _ _ _ => False)) { tmps := (ps.zip #[enc x]).foldl (fun t (p, v) => t.setIfInBounds p v) a.tmps, defers := [] } W)
  (hbody : ∀ (l : Nat) (pre : List α) (x : α) (W : World), I pre W → (pre ++ [x]) <+: xs → body.wpIn (F.inRound l) (n - 1 - 1) P (roundEnd w.heap.size Kp I Ix (pre ++ [x]) W) (a₁ x) W)
  (hdone : ∀ (D : Nat) (W : World), w.heap.size ≤ D → I xs W → W.heap[D]? = some (.deferred (some [])) → Q .normal { a with defers := { target := .collected D, args := #[] } :: a.defers } W)
  (hstop : ∀ (D : Nat) (pre : List α) (W : World), w.heap.size ≤ D → pre <+: xs → Ix pre W → W.heap[D]? = some (.deferred (some [])) → Code.ret.wpIn F n P Q { a with defers := { target := .collected D, args := #[] } :: a.defers } W) :
  (Code.rangeFunc g ps assign body).wpIn F n P Q a w := by
 refine wpIn_rangeFunc fun fn hfn => ?_
 rw [hro]
 -- the two blocks of book-keeping: D for the deferred calls, L for the loop's record
 obtain ⟨D, hD⟩ : ∃ D, w.heap.size = D := ⟨_, rfl⟩
 obtain ⟨rec, hrec⟩ : ∃ rec : LoopState → Option Code → Loop, rec = fun st pe => { state := st, pending := pe, fn, tmps := a.tmps, params := ps, assign, body, defers := w.heap.size } := ⟨_, rfl⟩
 obtain ⟨W1, hW1⟩ : ∃ W1, (w.alloc (.deferred (some []))).alloc (.loop (rec .ready none)) = W1 := ⟨_, rfl⟩
 have nL : W1.heap[D + 1]? = some (.loop (rec .ready none)) := by
  rw [← hW1, ← hD]; have := World.alloc_heap_new (w.alloc (.deferred (some []))) (.loop (rec .ready none)); rwa [World.size_alloc] at this
 have nD : W1.heap[D]? = some (.deferred (some [])) := by
  rw [← hW1, ← hD]; exact (Below.heap_alloc _ _ _ (by simp)).trans (World.alloc_heap_new w _)
 have nI : I [] W1 := by rw [← hW1]; exact hI.alloc _ (hI.alloc _ h0)
 have nb : Below w.heap.size w W1 := by rw [← hW1]; exact ((Below.refl _ w).alloc (Nat.le_refl _) _).alloc (by simp) _
 have hbD : b ≠ D := by omega
 have hbL : b ≠ D + 1 := by omega
 refine ⟨D + 1, [{ target := .collected D, args := #[] }], W1, { target := .fn (.func gf) lb, args := #[.func (.yield (D + 1)) #[] #[]] }, W1, gf, #[.func (.yield (D + 1)) #[] #[]] ++ lb, W1, ?_, ?_, ?_, ?_, fun _ => h1, ?_⟩
 ·rw [← hW1, hrec, ← hD]; exact run_enterLoop_outer _ _ _ _ _
 ·simp only [resolve, hg]; simp [go_sem]
 ·intro f' hf'; simp [Target.leads] at hf'; subst hf'; exact hFg
 ·simp [invoke, go_sem, eg]
 have go := hseq (D + 1) (fun pre W => I pre W ∧ W.heap[D + 1]? = some (.loop (rec .ready none)) ∧ W.heap[D]? = some (.deferred (some [])))
  (fun pre W => Ix pre W ∧ W.heap[D + 1]? = some (.loop (rec .done (some .ret))) ∧ W.heap[D]? = some (.deferred (some []))) W1 nb
  (fun s A v hs => ⟨hIb s A v hs.1, (Below.heap_setCell A ⟨b, 0, none⟩ v _ (Ne.symm hbL)).trans hs.2.1, (Below.heap_setCell A ⟨b, 0, none⟩ v _ (Ne.symm hbD)).trans hs.2.2⟩) ?round ⟨nI, nL, nD⟩
 case round =>
  rintro pre x W ⟨hi, hl, hd⟩ hpre
  have hlt : D + 1 < W.heap.size := (Array.getElem?_eq_some_iff.1 hl).1
  have hy := run_yield (P := P) (args := #[enc x]) hl (by rw [hrec]; simp [hps])
  rw [hrec] at hy
  refine ⟨fn, _, assign, body, hy, roundIn_of_wpIn hfn (hassign _ x W _ ⟨_, run_beginRound hl (by rw [hrec]), ?_⟩)⟩
  obtain ⟨Wb, hWb⟩ : ∃ Wb, W.putObj (D + 1) (.loop { rec .ready none with state := .busy }) = Wb := ⟨_, rfl⟩
  have bl : Wb.heap[D + 1]? = some (.loop { rec .ready none with state := .busy }) := by rw [← hWb]; exact World.putObj_heap_same hlt
  have bd : Wb.heap[D]? = some (.deferred (some [])) := by rw [← hWb]; exact (World.putObj_heap_other (by omega)).trans hd
  have bi : I pre Wb := by rw [← hWb]; exact put_of hI _ hi (by omega) hl rfl
  have bk : Kp W Wb := by rw [← hWb]; exact hKb _ _ _ (by omega)
  rw [hWb]
  refine wpIn_mono (hbody _ pre x Wb bi hpre) ?_
  rintro e a3 V hp
  have last : ∀ (jump : Option Code), KeepsFrom w.heap.size Wb V → ∀ st, st = (if jump.isNone then LoopState.ready else .done) →
    (Instr.endRound (D + 1) jump).run P V = .ok (.bool jump.isNone) (V.putObj (D + 1) (.loop (rec st jump))) ∧ V.heap[D + 1]? = some (.loop { rec .ready none with state := .busy }) ∧
    (V.putObj (D + 1) (.loop (rec st jump))).heap[D + 1]? = some (.loop (rec st jump)) ∧ (V.putObj (D + 1) (.loop (rec st jump))).heap[D]? = some (.deferred (some [])) := by
   rintro jump hk st rfl
   have vl := hk.same _ _ (by omega) bl rfl
   have hr := run_endRound (P := P) jump vl
   rw [hrec] at hr vl ⊢
   exact ⟨hr, vl, World.putObj_heap_same (Array.getElem?_eq_some_iff.1 vl).1, (World.putObj_heap_other (by omega)).trans (hk.same _ _ (by omega) bd rfl)⟩
  cases e with
  | normal =>
   obtain ⟨hk, hkp, hi'⟩ := hp
   obtain ⟨hr, vl, vl', vd⟩ := last none hk .ready rfl
   exact ⟨_, _, hr, .inl ⟨rfl, ⟨put_of hI _ hi' (by omega) vl rfl, vl', vd⟩, hKt (hKt bk hkp) (hKb _ _ _ (by omega))⟩⟩
  | ret =>
   obtain ⟨hk, hi'⟩ := hp
   obtain ⟨hr, vl, vl', vd⟩ := last (some .ret) hk .done rfl
   exact ⟨_, _, hr, .inr ⟨rfl, put_of hIx _ hi' (by omega) vl rfl, vl', vd⟩⟩
  | exit id => exact hp.elim
  | goto t => exact hp.elim
  | panic ch => exact hp.elim
  | outgrown => exact hp.elim
 refine go.mono ?_
 rintro e V ⟨⟨v, rfl⟩, ⟨hi, hl, hd⟩ | ⟨pre, hpre, hi, hl, hd⟩⟩
 ·have hr := run_endLoop (P := P) hl (by rw [hrec]; simp)
  rw [hrec] at hr
  exact ⟨none, _, hr, hdone _ _ (by omega) (put_of hI _ hi (by omega) hl rfl) ((World.putObj_heap_other (by omega)).trans hd)⟩
 ·have hr := run_endLoop (P := P) hl (by rw [hrec]; simp)
  rw [hrec] at hr
  exact ⟨some .ret, _, hr, hstop _ pre _ (by omega) hpre (put_of hIx _ hi (by omega) hl rfl) ((World.putObj_heap_other (by omega)).trans hd)⟩
end Go.Proofs.YtglilddlhibogaaGreatDoor.W
