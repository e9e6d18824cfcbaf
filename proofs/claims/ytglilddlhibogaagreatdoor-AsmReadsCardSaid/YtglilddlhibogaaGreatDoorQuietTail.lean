/- A region that draws its order: operations that only read, and calls that make new memory, ahead of a tail whose order is forced: one walk serves every order. No conditions. (After the kit's two theorems on quiet regions and on forced tails, joined.) -/
import Derived.StillTail
import Derived.Lib.QuietBelow
import Derived.Deep.RegionHeld3
namespace Go.Proofs.YtglilddlhibogaaGreatDoor.W
open Go.RowKit Go.Sort
set_option linter.unusedSimpArgs false
set_option linter.unusedVariables false

section
variable {P : Program} {ops : Array Oper} {md : Region.Mode} {C : World → Prop}

/-- whatever order the first n operations come up in -/
def anyHead (P : Program) (md : Region.Mode) (ops : Array Oper) (C : World → Prop) (n : Nat) (L : Array Bool → Act → Prop) : Nat → Array Bool → Act → Prop
 | 0, listed, a => L listed a
 | f + 1, listed, a =>
  Region.ready md ops listed ≠ [] ∧ ∀ i ∈ Region.ready md ops listed, i < n ∧ qOp P ops C i (anyHead P md ops C n L f (listed.setIfInBounds i true)) a

theorem any_of_head {n g : Nat} {L : Array Bool → Act → Prop} {Q' : Exit → Act → World → Prop} (hL : ∀ listed a, L listed a → ∀ w, C w → wpAny P md ops Q' g listed a w) :
  ∀ (f : Nat) (listed : Array Bool) (a : Act) (w : World), C w → anyHead P md ops C n L f listed a → wpAny P md ops Q' (f + g) listed a w
 | 0, listed, a, w, hw, h => by rw [Nat.zero_add]; exact hL _ _ h w hw
 | f + 1, listed, a, w, hw, h => by
  rw [show f + 1 + g = (f + g) + 1 by omega]
  exact ⟨fun h0 => absurd h0 h.1, fun i hi => wpOp_of_qOp hw (fun a' w' hw' h' => any_of_head hL f _ a' w' hw' h') (h.2 i hi).2⟩

theorem head_first {n i : Nat} {oi : Oper} {v : Value} {L : Array Bool → Act → Prop} (hi : ops[i]? = some oi) (hsel : ∀ (j : Nat) (o : Oper) cs b, ops[j]? = some o → o.op ≠ .select cs b)
  (hs : Region.sinkB md ops n = true) (hc : Region.chainB md ops n = true) (hn : n < ops.size) (hin : i < n)
  (hdone : ∀ listed a, L listed a → ∀ j ∈ Region.ready md ops listed, n ≤ j) :
  ∀ (f : Nat) (listed : Array Bool) (a : Act), HeadInv md ops n listed →
   (∀ j oj, ops[j]? = some oj → j ≠ i → listed.getD j true = false → (∀ e ∈ oj.after, Region.binds md e = true → e.on ≠ i) → oi.apart ops oj = true) →
   i ∈ Region.ready md ops listed → YieldsIn P ops C oi v a →
   anyHead P md ops C n L f (listed.setIfInBounds i true) (a.put oi.dst v) → anyHead P md ops C n L (f + 1) listed a := by
 intro f
 induction f with
 | zero =>
  intro listed a inv _ hr hy H
  have hun := (mem_ready.1 hr).1
  refine ⟨fun h => (by rw [h] at hr; cases hr), fun j hj => ?_⟩
  have hjn : j < n := by
   rcases Nat.lt_or_ge j n with h | h
   ·exact h
   ·exact absurd hj (tail_waits hs hc hn inv _ i rfl hin hun j h)
  refine ⟨hjn, ?_⟩
  by_cases hji : j = i
  ·subst hji; exact hy.qOp hi H
  ·have := hdone _ _ H j (ready_mono hj hji)
   omega
 | succ f ih =>
  intro listed a inv hfree hr hy H
  have hun := (mem_ready.1 hr).1
  refine ⟨fun h => (by rw [h] at hr; cases hr), fun j hj => ?_⟩
  have hjn : j < n := by
   rcases Nat.lt_or_ge j n with h | h
   ·exact h
   ·exact absurd hj (tail_waits hs hc hn inv _ i rfl hin hun j h)
  refine ⟨hjn, ?_⟩
  by_cases hji : j = i
  ·subst hji; exact hy.qOp hi H
  ·have h1 := (H.2 j (ready_mono hj hji)).2
   obtain ⟨hjun, oj, hoj, hall⟩ := mem_ready.1 hj
   have hnot : ∀ e ∈ oj.after, Region.binds md e = true → e.on ≠ i := fun e he hb heq => by
    have h1 := hall e he hb
    rw [heq, getD_both hun] at h1
    cases h1
   have h2 := qOp_put hoj (hfree j oj hoj hji hjun hnot) (fun cs b => hsel i oi cs b hi) (fun cs b => hsel j oj cs b hoj) hy h1
   have hfree' : ∀ k ok, ops[k]? = some ok → k ≠ i → (listed.setIfInBounds j true).getD k true = false →
     (∀ e ∈ ok.after, Region.binds md e = true → e.on ≠ i) → oi.apart ops ok = true := fun k ok hk hki hun hno => by
    refine hfree k ok hk hki ?_ hno
    by_cases hjk : j = k
    ·subst hjk; exact hjun
    ·rw [getD_set_ne true hjk] at hun; exact hun
   refine qOp_mono (fun a' h3 => ih (listed.setIfInBounds j true) a' (inv.set hj hjn) hfree' (ready_mono hr (Ne.symm hji)) h3.1 ?_) h2
   rw [Array.setIfInBounds_comm _ _ hji]
   exact h3.2

theorem head_lex {n g : Nat} {Lq : Act → Prop} (hsel : Region.noSelect ops = true) (hs : Region.sinkB md ops n = true) (hc : Region.chainB md ops n = true) (hn : n < ops.size) :
  ∀ (l : List Oper) (k : Nat) (listed : Array Bool) (a : Act), (∀ j, j < l.length → l[j]? = ops[k + j]?) → k + l.length = n → HeadInv md ops n listed →
  Region.lexHead md ops g l.length k listed = true → wpQuiet P ops C Lq l a →
  anyHead P md ops C n (fun listed' a' => Region.seqB md ops g n listed' = true ∧ Lq a') l.length listed a
 | [], k, listed, a, _, hk, _, hB, h => by
  have : k = n := by simpa using hk
  subst this
  exact ⟨by simpa [Region.lexHead] using hB, h⟩
 | o :: l, k, listed, a, hl, hk, inv, hB, h => by
  have h0 : ops[k]? = some o := by simpa using (hl 0 (by simp)).symm
  simp only [List.length_cons, Region.lexHead, Bool.and_eq_true] at hB
  obtain ⟨⟨hr, hf⟩, hB'⟩ := hB
  have hkn : k < n := by simp only [List.length_cons] at hk; omega
  have hr' : k ∈ Region.ready md ops listed := by simpa using hr
  have hst : qOp P ops C k (wpQuiet P ops C Lq l) a := by unfold qOp; simp only [h0]; exact h
  obtain ⟨v, hy, hK⟩ := yieldsIn_of_qOp h0 hst
  exact head_first h0 (Region.noSelect_spec hsel) hs hc hn hkn (fun listed' a' hL => seqB_ready hL.1) l.length listed a inv (Region.free_spec h0 hf) hr' hy
   (head_lex hsel hs hc hn l (k + 1) _ _ (fun j hj => by have := hl (j + 1) (by simp; omega); simpa [Nat.add_assoc, Nat.add_comm 1 j] using this) (by simp only [List.length_cons] at hk; omega) (inv.set hr' hkn) hB' hK)

theorem wp_region_quiet_tail {id : Nat} {Q : Exit → Act → World → Prop} {a : Act} {w : World} {l : List Oper} (n : Nat) (hm : P.follows .mixedOrders = true) (hB : Region.lexTailB .any l.toArray n = true) (hC : C { w with drawn := w.drawn + 1 })
  (h : wpQuiet P l.toArray C (fun a' => ∀ w', C w' → wpList P l.toArray Q (l.drop n) a' w') (l.take n) a) : (Code.region id l.toArray true).wp P Q a w := by
 simp only [Region.lexTailB, Bool.and_eq_true, decide_eq_true_eq] at hB
 obtain ⟨⟨⟨⟨hsel, hn⟩, hs⟩, hc⟩, hlex⟩ := hB
 have hn' : n < l.length := by simpa using hn
 have htl : (l.take n).length = n := by simp; omega
 have hdl : (l.drop n).length = l.toArray.size - n := by simp
 have inv0 : HeadInv .any l.toArray n (Array.replicate l.toArray.size false) :=
  ⟨by simp, fun j oj _ hl => (by rw [getD_replicate_false] at hl; cases hl), fun t _ ht => getD_in (by simpa using ht) (getD_replicate_false _ _)⟩
 have H := head_lex (C := C) (md := .any) (g := l.toArray.size - n) hsel hs hc hn (l.take n) 0 _ a (fun j hj => by
  have hj' : j < n := by rw [htl] at hj; exact hj
  simp [hj']) (by simpa using htl) inv0 (by rw [htl]; exact hlex) h
 refine wp_region_any hm ?_
 have := any_of_head (C := C) (Q' := Q) (g := l.toArray.size - n) (fun listed a' hL w' hw' => by
  have := wpAny_of_seq (md := .any) (Q' := Q) (l.drop n) n listed a' w' (fun j => by simp [List.getElem?_drop]) (by rw [hdl]; exact hL.1) (hL.2 w' hw')
  rwa [hdl] at this) _ _ _ _ hC H
 rw [htl, show n + (l.toArray.size - n) = l.toArray.size by omega] at this
 exact this

/-- at the class: what was there is as it was, blocks may have been laid -/
theorem wp_below_tail {id : Nat} {Q : Exit → Act → World → Prop} {a : Act} {w : World} {l : List Oper} (n : Nat) (hm : P.follows .mixedOrders = true) (hB : Region.lexTailB .any l.toArray n = true)
  (h : wpQuiet P l.toArray (fun w' => ∃ p : Regrown, w' = grow (redrawn w p.d) p.os) (fun a' => ∀ w', (∃ p : Regrown, w' = grow (redrawn w p.d) p.os) → wpList P l.toArray Q (l.drop n) a' w') (l.take n) a) : (Code.region id l.toArray true).wp P Q a w :=
 wp_region_quiet_tail (C := fun w' => ∃ p : Regrown, w' = grow (redrawn w p.d) p.os) n hm hB ⟨⟨w.drawn + 1, #[]⟩, by rw [grow_empty]; rfl⟩ h
end
/-! a forced tail from operation k on; the operations ahead of it only read, and those for which k does not wait are mere moves -/
section
variable {P : Program} {ops : Array Oper} {md : Region.Mode} {C : World → Prop} {Q' : Exit → Act → World → Prop}

/-- does operation j wait for operation i, by three edges at most? -/
def needs (md : Region.Mode) (ops : Array Oper) : Nat → Nat → Nat → Bool
 | 0, _, _ => false
 | f + 1, j, i => match ops[j]? with
  | some oj => oj.after.any (fun e => Region.binds md e && e.on == i) || oj.after.any (fun e => Region.binds md e && needs md ops f e.on i)
  | none => false
def Closed (md : Region.Mode) (ops : Array Oper) (listed : Array Bool) : Prop :=
 ∀ j oj, ops[j]? = some oj → listed.getD j false = true → ∀ e ∈ oj.after, Region.binds md e = true → listed.getD e.on false = true
theorem Closed.set {i : Nat} {listed : Array Bool} (h : Closed md ops listed) (hi : i ∈ Region.ready md ops listed) : Closed md ops (listed.setIfInBounds i true) := by
 obtain ⟨_, oi, hoi, hall⟩ := mem_ready.1 hi
 intro j oj hj hl e he hb
 by_cases hij : i = j
 ·subst hij
  have : oj = oi := Option.some.inj (hj.symm.trans hoi)
  subst this
  exact getD_set_true (hall e he hb)
 ·rw [getD_set_ne false hij] at hl
  exact getD_set_true (h j oj hj hl e he hb)
theorem needs_listed {listed : Array Bool} (hc : Closed md ops listed) : ∀ (f j i : Nat), needs md ops f j i = true → (∀ oj, ops[j]? = some oj → ∀ e ∈ oj.after, Region.binds md e = true → listed.getD e.on false = true) → listed.getD i false = true
 | 0, _, _, h, _ => by cases h
 | f + 1, j, i, h, hd => by
  unfold needs at h
  split at h
  ·rename_i oj hj
   rw [Bool.or_eq_true] at h
   rcases h with h | h
   ·obtain ⟨e, he, hb⟩ := Array.any_eq_true'.1 h
    rw [Bool.and_eq_true, beq_iff_eq] at hb
    rw [← hb.2]; exact hd oj hj e he hb.1
   ·obtain ⟨e, he, hb⟩ := Array.any_eq_true'.1 h
    rw [Bool.and_eq_true] at hb
    have hl := hd oj hj e he hb.1
    exact needs_listed hc f e.on i hb.2 (fun o' ho' e' he' hb' => hc e.on o' ho' hl e' he' hb')
  ·cases h
def lateB (ops : Array Oper) (i : Nat) : Bool := match ops[i]? with
 | some o => (match o.op with | .assign _ => o.guard.isNone | .move _ => o.guard.isNone | .extract _ _ => o.guard.isNone | _ => false)
 | none => false
theorem extract_run (x : Value) (ix : Nat) {w0 w0' : World} {v : Value} (h : (Instr.extract x ix).run P w0 = .ok v w0') (w : World) : (Instr.extract x ix).run P w = .ok v w := by
 unfold Instr.extract at *
 split at h
 ·split at h
  ·rename_i u hu
   simp only [hu, Sem.run_pure, Result.ok.injEq] at h ⊢
   exact ⟨h.1, trivial⟩
  ·cases h
 ·cases h
theorem late_yields {i : Nat} {o : Oper} {v : Value} {a : Act} {w : World} (hi : ops[i]? = some o) (h : lateB ops i = true) (hy : YieldsIn P ops C o v a) (hw : C w) : Yields P ops o v a := by
 unfold lateB at h
 simp only [hi] at h
 rcases hy with ⟨h1, h2⟩ | ⟨h1, h2⟩
 ·have h3 := h2 w hw
  refine .inl ⟨h1, fun w' => ?_⟩
  unfold Oper.quietAt execOp at h3
  unfold execOp
  split at h
  ·rename_i x ho
   rw [ho] at h3 ⊢
   simp only [Sem.run_pure, Oper.quietUpon] at h3 ⊢
   rw [h3.2]
  ·rename_i x ho
   rw [ho] at h3 ⊢
   simp only [Sem.run_pure, Oper.quietUpon] at h3 ⊢
   rw [h3.2]
  ·rename_i x ix ho
   rw [ho] at h3 ⊢
   simp only [Sem.run_bind, Sem.run_pure] at h3 ⊢
   cases hr : (Instr.extract (a.eval x) ix).run P w with
   | ok u w'' =>
    rw [hr] at h3
    simp only [Result.andThen_ok, Oper.quietUpon] at h3
    rw [extract_run _ _ hr w', Result.andThen_ok, h3.2]
   | halt u w'' =>
    rw [hr] at h3
    exact h3.elim
  ·cases h
 ·exact .inr ⟨h1, h2⟩

def quietH (P : Program) (md : Region.Mode) (ops : Array Oper) (C : World → Prop) (Q' : Exit → Act → World → Prop) (k : Nat) : Nat → Array Bool → Act → Prop
 | 0, _, _ => False
 | f + 1, listed, a => Region.ready md ops listed ≠ [] ∧ ∀ i ∈ Region.ready md ops listed,
   (i = k → ∀ w, C w → wpOp P ops Q' k (wpAny P md ops Q' f (listed.setIfInBounds k true)) a w) ∧ (i ≠ k → qOp P ops C i (quietH P md ops C Q' k f (listed.setIfInBounds i true)) a)
theorem any_of_H {k : Nat} : ∀ (f : Nat) (listed : Array Bool) (a : Act) (w : World), C w → quietH P md ops C Q' k f listed a → wpAny P md ops Q' f listed a w
 | 0, _, _, _, _, h => h.elim
 | f + 1, listed, a, w, hw, h => ⟨fun h0 => absurd h0 h.1, fun i hi => by
   by_cases e : i = k
   ·subst e; exact (h.2 _ hi).1 rfl w hw
   ·exact wpOp_of_qOp hw (fun a' w' hw' h' => any_of_H f _ a' w' hw' h') ((h.2 i hi).2 e)⟩
theorem first_H {k i : Nat} {oi : Oper} {v : Value} (hi : ops[i]? = some oi) (hsel : ∀ (j : Nat) (o : Oper) cs b, ops[j]? = some o → o.op ≠ .select cs b)
  (hQ : ∀ c a w, Q' (.panic c) (a.put oi.dst v) w → Q' (.panic c) a w) (hik : i ≠ k) (hwait : lateB ops i = true ∨ needs md ops 3 k i = true) :
  ∀ (f : Nat) (listed : Array Bool) (a : Act), Closed md ops listed →
   (∀ j oj, ops[j]? = some oj → j ≠ i → listed.getD j true = false → (∀ e ∈ oj.after, Region.binds md e = true → e.on ≠ i) → oi.apart ops oj = true) →
   i ∈ Region.ready md ops listed → YieldsIn P ops C oi v a →
   quietH P md ops C Q' k f (listed.setIfInBounds i true) (a.put oi.dst v) → quietH P md ops C Q' k (f + 1) listed a := by
 intro f
 induction f with
 | zero => intro listed a _ _ _ _ H; exact H.elim
 | succ f ih =>
  intro listed a hcl hfree hr hy H
  have hun := (mem_ready.1 hr).1
  refine ⟨fun h => (by rw [h] at hr; cases hr), fun j hj => ?_⟩
  have hnot : ∀ oj, ops[j]? = some oj → j ∈ Region.ready md ops listed → ∀ e ∈ oj.after, Region.binds md e = true → e.on ≠ i := fun oj hoj hj e he hb heq => by
   obtain ⟨_, o', ho', hall⟩ := mem_ready.1 hj
   have : o' = oj := Option.some.inj (ho'.symm.trans hoj)
   subst this
   have h1 := hall e he hb
   rw [heq, getD_both hun] at h1
   cases h1
  have hfree' : ∀ j, ∀ k ok, ops[k]? = some ok → k ≠ i → (listed.setIfInBounds j true).getD k true = false →
    (∀ e ∈ ok.after, Region.binds md e = true → e.on ≠ i) → oi.apart ops ok = true := fun j k ok hk hki hun hno => by
   refine hfree k ok hk hki ?_ hno
   by_cases hjk : j = k
   ·subst hjk
    rcases Nat.lt_or_ge j listed.size with h' | h'
    ·simp [h'] at hun
    ·rw [Array.setIfInBounds_eq_of_size_le h'] at hun; exact hun
   ·rw [getD_set_ne true hjk] at hun; exact hun
  constructor
  ·intro e w hw
   subst e
   have h1 := (H.2 j (ready_mono hj (Ne.symm hik))).1 rfl w hw
   obtain ⟨hjun, oj, hoj, hall⟩ := mem_ready.1 hj
   have hlate : lateB ops i = true := by
    rcases hwait with h | h
    ·exact h
    ·have := needs_listed hcl 3 j i h (fun o' ho' e he hb => by
      have : o' = oj := Option.some.inj (ho'.symm.trans hoj)
      subst this
      exact hall e he hb)
     rw [getD_both hun] at this
     cases this
   have hY := late_yields hi hlate hy hw
   have h2 := wpOp_put hoj (hfree j oj hoj (Ne.symm hik) hjun (hnot oj hoj hj)) (fun cs b => hsel i oi cs b hi) (fun cs b => hsel j oj cs b hoj) hQ hY h1
   refine wpOp_mono (fun a' w' h3 => wpAny_first hi hsel hQ f (listed.setIfInBounds j true) a' w' (hfree' j) (ready_mono hr hik) h3.1 ?_) h2
   rw [Array.setIfInBounds_comm _ _ (Ne.symm hik)]
   exact h3.2
  ·intro hjk
   by_cases hji : j = i
   ·subst hji; exact hy.qOp hi H
   ·have h1 := (H.2 j (ready_mono hj hji)).2 hjk
    obtain ⟨hjun, oj, hoj, hall⟩ := mem_ready.1 hj
    have h2 := qOp_put hoj (hfree j oj hoj hji hjun (hnot oj hoj hj)) (fun cs b => hsel i oi cs b hi) (fun cs b => hsel j oj cs b hoj) hy h1
    refine qOp_mono (fun a' h3 => ih (listed.setIfInBounds j true) a' (hcl.set hj) (hfree' j) (ready_mono hr (Ne.symm hji)) h3.1 ?_) h2
    rw [Array.setIfInBounds_comm _ _ hji]
    exact h3.2
def lexOne (md : Region.Mode) (ops : Array Oper) (k : Nat) : Nat → Nat → Array Bool → Bool
 | 0, i, listed => i == k && Region.seqB md ops (ops.size - k) k listed
 | f + 1, i, listed => i != k && (Region.ready md ops listed).contains i && Region.free md ops listed i && (lateB ops i || needs md ops 3 k i) && lexOne md ops k f (i + 1) (listed.setIfInBounds i true)
theorem lex_H {k : Nat} {Lq : Act → Prop} (hsel : Region.noSelect ops = true) (hQ : ∀ c a w d v, Q' (.panic c) (a.put d v) w → Q' (.panic c) a w)
  (hfin : ∀ listed a, Region.seqB md ops (ops.size - k) k listed = true → Lq a → quietH P md ops C Q' k (ops.size - k) listed a) :
  ∀ (l : List Oper) (i : Nat) (listed : Array Bool) (a : Act), (∀ j, j < l.length → l[j]? = ops[i + j]?) → Closed md ops listed → lexOne md ops k l.length i listed = true → wpQuiet P ops C Lq l a → quietH P md ops C Q' k (l.length + (ops.size - k)) listed a
 | [], i, listed, a, _, _, hB, h => by
  simp only [List.length_nil, lexOne, Bool.and_eq_true, beq_iff_eq] at hB
  rw [List.length_nil, Nat.zero_add]
  exact hfin listed a hB.2 h
 | o :: l, i, listed, a, hl, hcl, hB, h => by
  have h0 : ops[i]? = some o := by simpa using (hl 0 (by simp)).symm
  simp only [List.length_cons, lexOne, Bool.and_eq_true, Bool.or_eq_true, bne_iff_ne, ne_eq] at hB
  obtain ⟨⟨⟨⟨hik, hr⟩, hf⟩, hw⟩, hB'⟩ := hB
  have hr' : i ∈ Region.ready md ops listed := by simpa using hr
  have hst : qOp P ops C i (wpQuiet P ops C Lq l) a := by unfold qOp; simp only [h0]; exact h
  obtain ⟨v, hy, hK⟩ := yieldsIn_of_qOp h0 hst
  rw [show (o :: l).length + (ops.size - k) = (l.length + (ops.size - k)) + 1 by simp only [List.length_cons]; omega]
  exact first_H h0 (Region.noSelect_spec hsel) (fun c a w => hQ c a w _ _) hik hw _ listed a hcl (Region.free_spec h0 hf) hr' hy
   (lex_H hsel hQ hfin l (i + 1) _ _ (fun j hj => by have := hl (j + 1) (by simp; omega); simpa [Nat.add_assoc, Nat.add_comm 1 j] using this) (hcl.set hr') hB' hK)
theorem wp_region_one {id : Nat} {a : Act} {w : World} {l : List Oper} (k : Nat) (hm : P.follows .mixedOrders = true)
  (hB : (Region.noSelect l.toArray && decide (k < l.length) && lexOne .any l.toArray k k 0 (Array.replicate l.length false)) = true)
  (hQ : ∀ c a w d v, Q' (.panic c) (a.put d v) w → Q' (.panic c) a w) (hC : C { w with drawn := w.drawn + 1 })
  (h : wpQuiet P l.toArray C (fun a' => ∀ w', C w' → wpList P l.toArray Q' (l.drop k) a' w') (l.take k) a) : (Code.region id l.toArray true).wp P Q' a w := by
 simp only [Bool.and_eq_true, decide_eq_true_eq] at hB
 obtain ⟨⟨hsel, hk⟩, hlex⟩ := hB
 have htl : (l.take k).length = k := by simp; omega
 have hdl : (l.drop k).length = l.toArray.size - k := by simp
 refine wp_region_any hm ?_
 have H := lex_H (P := P) (C := C) (Q' := Q') (md := .any) (ops := l.toArray) (k := k) hsel hQ (fun listed a' hs hL => by
  obtain ⟨g, hg⟩ : ∃ g, l.toArray.size - k = g + 1 := ⟨l.toArray.size - k - 1, by simp; omega⟩
  rw [hg] at hs ⊢
  have hs' := hs
  simp only [Region.seqB, Bool.and_eq_true, decide_eq_true_eq] at hs'
  refine ⟨by rw [hs'.1]; simp, fun i hi => ?_⟩
  rw [hs'.1] at hi
  have hik : i = k := by simpa using hi
  subst hik
  refine ⟨fun _ w' hw' => ?_, fun hne => absurd rfl hne⟩
  have := wpAny_of_seq (md := .any) (Q' := Q') (l.drop i) i listed a' w' (fun j => by simp [List.getElem?_drop]) (by rw [hdl, hg]; exact hs) (hL w' hw')
  rw [hdl, hg] at this
  exact this.2 i (by rw [hs'.1]; simp)) (l.take k) 0 (Array.replicate l.length false) a (fun j hj => by
   rw [htl] at hj
   simp [hj]) (fun j oj _ hl => by rw [getD_replicate_false] at hl; cases hl) (by rw [htl]; exact hlex) h
 have := any_of_H _ _ _ _ hC H
 rw [htl, show k + (l.toArray.size - k) = l.toArray.size by simp; omega] at this
 simpa using this
/-- at the class: what was there is as it was, blocks may have been laid -/
theorem wp_below_one {id : Nat} {a : Act} {w : World} {l : List Oper} (k : Nat) (hm : P.follows .mixedOrders = true)
  (hB : (Region.noSelect l.toArray && decide (k < l.length) && lexOne .any l.toArray k k 0 (Array.replicate l.length false)) = true)
  (h : wpQuiet P l.toArray (fun w' => ∃ p : Regrown, w' = grow (redrawn w p.d) p.os) (fun a' => ∀ w', (∃ p : Regrown, w' = grow (redrawn w p.d) p.os) → wpList P l.toArray (NoPanic Q') (l.drop k) a' w') (l.take k) a) : (Code.region id l.toArray true).wp P Q' a w :=
 wp_region_noPanic (wp_region_one (C := fun w' => ∃ p : Regrown, w' = grow (redrawn w p.d) p.os) k hm hB (fun _ _ _ _ _ h => h) ⟨⟨w.drawn + 1, #[]⟩, by rw [grow_empty]; rfl⟩ h)
end
end Go.Proofs.YtglilddlhibogaaGreatDoor.W
