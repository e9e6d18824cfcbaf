/- A region that draws its order: one walk in an order that the prover names: reads, calls that make new memory and late moves first, then a tail whose order is forced. No conditions. (After XQuietTail's law for one operation that writes.) -/
import Derived.Test.YtfpoicdfkjbknaaDoorQuietTail
namespace Go.Proofs.YtfpoicdfkjbknaaDoor.W
open Go.RowKit Go.Sort
set_option linter.unusedSimpArgs false
set_option linter.unusedVariables false

section
variable {P : Program} {ops : Array Oper} {md : Region.Mode} {C : World → Prop} {Q' : Exit → Act → World → Prop}

def seqO (md : Region.Mode) (ops : Array Oper) : List Nat → Array Bool → Bool
 | [], listed => (Region.ready md ops listed).isEmpty
 | k :: r, listed => decide (Region.ready md ops listed = [k]) && seqO md ops r (listed.setIfInBounds k true)
theorem wpAny_of_seqO : ∀ (t : List Nat) (l : List Oper) (listed : Array Bool) (a : Act) (w : World), t.map (fun i => ops[i]?) = l.map some → seqO md ops t listed = true → wpList P ops Q' l a w → wpAny P md ops Q' l.length listed a w
 | [], [], _, _, _, _, hB, h => ⟨by simpa [seqO] using hB, h⟩
 | [], _ :: _, _, _, _, hl, _, _ => by simp at hl
 | _ :: _, [], _, _, _, hl, _, _ => by simp at hl
 | k :: t, o :: l, listed, a, w, hl, hB, h => by
  simp only [List.map_cons, List.cons.injEq] at hl
  simp only [seqO, Bool.and_eq_true, decide_eq_true_eq] at hB
  refine ⟨fun h1 => (by rw [hB.1] at h1; cases h1), fun i hi => ?_⟩
  rw [hB.1] at hi
  have hik : i = k := by simpa using hi
  subst hik
  have hw : wpOp P ops Q' i (wpList P ops Q' l) a w := by unfold wpOp; simp only [hl.1]; exact h
  exact wpOp_mono (fun a' w' h' => wpAny_of_seqO t l _ a' w' hl.2 hB.2 h') hw
def lexO (md : Region.Mode) (ops : Array Oper) (k : Nat) (t : List Nat) : List Nat → Array Bool → Bool
 | [], listed => seqO md ops (k :: t) listed
 | i :: r, listed => i != k && (Region.ready md ops listed).contains i && Region.free md ops listed i && (lateB ops i || needs md ops 3 k i) && lexO md ops k t r (listed.setIfInBounds i true)
theorem lex_O {k n : Nat} {t : List Nat} {Lq : Act → Prop} (hsel : Region.noSelect ops = true) (hQ : ∀ c a w d v, Q' (.panic c) (a.put d v) w → Q' (.panic c) a w)
  (hfin : ∀ listed a, seqO md ops (k :: t) listed = true → Lq a → quietH P md ops C Q' k n listed a) :
  ∀ (r : List Nat) (l : List Oper) (listed : Array Bool) (a : Act), r.map (fun i => ops[i]?) = l.map some → Closed md ops listed → lexO md ops k t r listed = true → wpQuiet P ops C Lq l a → quietH P md ops C Q' k (r.length + n) listed a
 | [], [], listed, a, _, _, hB, h => by
  rw [List.length_nil, Nat.zero_add]
  exact hfin listed a hB h
 | [], _ :: _, _, _, hl, _, _, _ => by simp at hl
 | _ :: _, [], _, _, hl, _, _, _ => by simp at hl
 | i :: r, o :: l, listed, a, hl, hcl, hB, h => by
  simp only [List.map_cons, List.cons.injEq] at hl
  obtain ⟨h0, hl⟩ := hl
  simp only [lexO, Bool.and_eq_true, Bool.or_eq_true, bne_iff_ne, ne_eq] at hB
  obtain ⟨⟨⟨⟨hik, hr⟩, hf⟩, hw⟩, hB'⟩ := hB
  have hr' : i ∈ Region.ready md ops listed := by simpa using hr
  have hst : qOp P ops C i (wpQuiet P ops C Lq l) a := by unfold qOp; simp only [h0]; exact h
  obtain ⟨v, hy, hK⟩ := yieldsIn_of_qOp h0 hst
  rw [show (i :: r).length + n = (r.length + n) + 1 by simp only [List.length_cons]; omega]
  exact first_H h0 (Region.noSelect_spec hsel) (fun c a w => hQ c a w _ _) hik hw _ listed a hcl (Region.free_spec h0 hf) hr' hy
   (lex_O hsel hQ hfin r l _ _ hl (hcl.set hr') hB' hK)
def opsAt (l : List Oper) (r : List Nat) : List Oper := r.filterMap fun i => l[i]?
theorem opsAt_map {l : List Oper} : ∀ {r : List Nat}, r.all (fun i => decide (i < l.length)) = true → r.map (fun i => l.toArray[i]?) = (opsAt l r).map some
 | [], _ => rfl
 | i :: r, h => by
  simp only [List.all_cons, Bool.and_eq_true, decide_eq_true_eq] at h
  unfold opsAt
  rw [List.filterMap_cons, List.getElem?_eq_getElem h.1]
  simp only [List.map_cons]
  rw [opsAt_map h.2]
  simp [opsAt, h.1]
theorem opsAt_length {l : List Oper} {r : List Nat} (h : r.all (fun i => decide (i < l.length)) = true) : (opsAt l r).length = r.length := by
 have := congrArg List.length (opsAt_map h)
 simpa using this.symm
theorem wp_region_ord {id : Nat} {a : Act} {w : World} {l : List Oper} (r : List Nat) (k : Nat) (t : List Nat) (hm : P.follows .mixedOrders = true)
  (hB : (Region.noSelect l.toArray && r.all (fun i => decide (i < l.length)) && (k :: t).all (fun i => decide (i < l.length)) && decide (r.length + (t.length + 1) = l.length) && lexO .any l.toArray k t r (Array.replicate l.length false)) = true)
  (hQ : ∀ c a w d v, Q' (.panic c) (a.put d v) w → Q' (.panic c) a w) (hC : C { w with drawn := w.drawn + 1 })
  (h : wpQuiet P l.toArray C (fun a' => ∀ w', C w' → wpList P l.toArray Q' (opsAt l (k :: t)) a' w') (opsAt l r) a) : (Code.region id l.toArray true).wp P Q' a w := by
 simp only [Bool.and_eq_true, decide_eq_true_eq] at hB
 obtain ⟨⟨⟨⟨hsel, hr⟩, ht⟩, hlen⟩, hlex⟩ := hB
 refine wp_region_any hm ?_
 have H := lex_O (P := P) (C := C) (Q' := Q') (md := .any) (ops := l.toArray) (k := k) (t := t) (n := t.length + 1) hsel hQ (fun listed a' hs hL => by
  have hs' := hs
  simp only [seqO, Bool.and_eq_true, decide_eq_true_eq] at hs'
  refine ⟨by rw [hs'.1]; simp, fun i hi => ?_⟩
  rw [hs'.1] at hi
  have hik : i = k := by simpa using hi
  subst hik
  refine ⟨fun _ w' hw' => ?_, fun hne => absurd rfl hne⟩
  have := wpAny_of_seqO (md := .any) (Q' := Q') (i :: t) (opsAt l (i :: t)) listed a' w' (opsAt_map ht) hs (hL w' hw')
  rw [opsAt_length ht, List.length_cons] at this
  exact this.2 i (by rw [hs'.1]; simp)) r (opsAt l r) (Array.replicate l.length false) a (opsAt_map hr) (fun j oj _ hl => by rw [getD_replicate_false] at hl; cases hl) hlex h
 have := any_of_H _ _ _ _ hC H
 rw [hlen] at this
 simpa using this
/-- r: the order in which the operations that only read, call what makes memory, or move are walked; k: the first one behind them; t: those behind it, in their forced order -/
theorem wp_below_ord {id : Nat} {a : Act} {w : World} {l : List Oper} (r : List Nat) (k : Nat) (t : List Nat) (hm : P.follows .mixedOrders = true)
  (hB : (Region.noSelect l.toArray && r.all (fun i => decide (i < l.length)) && (k :: t).all (fun i => decide (i < l.length)) && decide (r.length + (t.length + 1) = l.length) && lexO .any l.toArray k t r (Array.replicate l.length false)) = true)
  (h : wpQuiet P l.toArray (fun w' => ∃ p : Regrown, w' = grow (redrawn w p.d) p.os) (fun a' => ∀ w', (∃ p : Regrown, w' = grow (redrawn w p.d) p.os) → wpList P l.toArray (NoPanic Q') (opsAt l (k :: t)) a' w') (opsAt l r) a) : (Code.region id l.toArray true).wp P Q' a w :=
 wp_region_noPanic (wp_region_ord (C := fun w' => ∃ p : Regrown, w' = grow (redrawn w p.d) p.os) r k t hm hB (fun _ _ _ _ _ h => h) ⟨⟨w.drawn + 1, #[]⟩, by rw [grow_empty]; rfl⟩ h)
end
end Go.Proofs.YtfpoicdfkjbknaaDoor.W
