/- A region that draws its order: operations that only read, calls that make new memory, and new variables (alloc), ahead of a tail whose order is forced: one walk serves every order; where the new variables lie is left open. No conditions. (After XQuietTail, which has no alloc.) -/
import Derived.Test.YtglilddlhibogaaGreatDoorQuietTail
namespace Go.Proofs.YtglilddlhibogaaGreatDoor.W
open Go.RowKit Go.Sort
set_option linter.unusedSimpArgs false
set_option linter.unusedVariables false

def BelowAt (w w' : World) : Prop := Below w.heap.size w w'
theorem grown_trans {wd w w' : World} (h : ∃ p : Regrown, w = grow (redrawn wd p.d) p.os) (h' : BelowAt w w') : ∃ p : Regrown, w' = grow (redrawn wd p.d) p.os := by
 obtain ⟨p, rfl⟩ := h
 have hb := below_regrown wd p.d p.os
 exact regrown_of_below (hb.trans (h'.mono hb.size))
theorem grown_below {wd w : World} (h : ∃ p : Regrown, w = grow (redrawn wd p.d) p.os) : Below wd.heap.size wd w := by
 obtain ⟨p, rfl⟩ := h; exact below_regrown _ _ _
theorem Calls.at_of {P : Program} {f : FuncId} {args : Array Value} {w : World} {v : Value} (h : Calls P f args w fun e w' => e = .returned v ∧ Below w.heap.size w w') : Calls P f args w fun e w' => e = .returned v ∧ BelowAt w w' := h

def isAlloc (o : Oper) : Bool := match o.op with | .alloc _ => o.guard.isNone | _ => false
def allocType (o : Oper) : TypeId := match o.op with | .alloc t => t | _ => 0
theorem isAlloc_spec {o : Oper} (h : isAlloc o = true) : o.op = .alloc (allocType o) ∧ o.guard = none := by
 unfold isAlloc at h
 unfold allocType
 split at h
 ·rename_i t ht; rw [ht]; exact ⟨rfl, by simpa using h⟩
 ·cases h

theorem inj_fst : ∀ (M : List (Nat × Nat)), (M.map (·.1)).Nodup → ∀ x ∈ M, ∀ y ∈ M, x.1 = y.1 → x = y
 | [], _, x, hx, _, _, _ => by simp at hx
 | z :: M, h, x, hx, y, hy, e => by
  simp only [List.map_cons, List.nodup_cons] at h
  rcases List.mem_cons.1 hx with rfl | hx1 <;> rcases List.mem_cons.1 hy with rfl | hy1
  ·rfl
  ·exact (h.1 (List.mem_map.2 ⟨y, hy1, e.symm⟩)).elim
  ·exact (h.1 (List.mem_map.2 ⟨x, hx1, e⟩)).elim
  ·exact inj_fst M h.2 x hx1 y hy1 e
theorem inj_snd : ∀ (M : List (Nat × Nat)), (M.map (·.2)).Nodup → ∀ x ∈ M, ∀ y ∈ M, x.2 = y.2 → x = y
 | [], _, x, hx, _, _, _ => by simp at hx
 | z :: M, h, x, hx, y, hy, e => by
  simp only [List.map_cons, List.nodup_cons] at h
  rcases List.mem_cons.1 hx with rfl | hx1 <;> rcases List.mem_cons.1 hy with rfl | hy1
  ·rfl
  ·exact (h.1 (List.mem_map.2 ⟨y, hy1, e.symm⟩)).elim
  ·exact (h.1 (List.mem_map.2 ⟨x, hx1, e⟩)).elim
  ·exact inj_snd M h.2 x hx1 y hy1 e
section
variable {P : Program} {ops : Array Oper} {md : Region.Mode} {wd : World}

def calm (P : Program) (wd : World) (o : Oper) (a : Act) (next : Act → Prop) : Prop :=
 ∃ v, (∀ w0, (∃ p : Regrown, w0 = grow (redrawn wd p.d) p.os) → o.quietAt P a (BelowAt w0) w0 v) ∧ next (a.put o.dst v)
theorem calm_mono {o : Oper} {a : Act} {K K' : Act → Prop} (h : ∀ a, K a → K' a) (hh : calm P wd o a K) : calm P wd o a K' :=
 let ⟨v, h1, h2⟩ := hh
 ⟨v, h1, h _ h2⟩
/-- the walk, in the text's order; new variables are passed over -/
def wpCalm (P : Program) (ops : Array Oper) (wd : World) (Q : Act → Prop) : List Oper → Act → Prop
 | [], a => Q a
 | o :: rest, a => if isAlloc o then wpCalm P ops wd Q rest a else if Region.wanted o (yielded ops a.tmps) then calm P wd o a (wpCalm P ops wd Q rest) else wpCalm P ops wd Q rest (a.put o.dst undef)
theorem wpCalm_nil {Q : Act → Prop} {a : Act} (h : Q a) : wpCalm P ops wd Q [] a := h
theorem wpCalm_alloc {Q : Act → Prop} {a : Act} {o : Oper} {rest : List Oper} (ho : isAlloc o = true) (h : wpCalm P ops wd Q rest a) : wpCalm P ops wd Q (o :: rest) a := by
 unfold wpCalm; rw [if_pos ho]; exact h
theorem wpCalm_step {Q : Act → Prop} {a : Act} {o : Oper} {rest : List Oper} (ho : isAlloc o = false)
  (h : ∀ K : Act → Prop, (∀ a, wpCalm P ops wd Q rest a → K a) → if Region.wanted o (yielded ops a.tmps) then (∃ v, (∀ w0, (∃ p : Regrown, w0 = grow (redrawn wd p.d) p.os) → o.quietAt P a (BelowAt w0) w0 v) ∧ K (a.put o.dst v)) else K (a.put o.dst undef)) : wpCalm P ops wd Q (o :: rest) a := by
 unfold wpCalm; rw [if_neg (by simp [ho])]
 exact h _ (fun _ h => h)

theorem wpCalm_mono {Q Q' : Act → Prop} (h : ∀ a, Q a → Q' a) : ∀ (l : List Oper) (a : Act), wpCalm P ops wd Q l a → wpCalm P ops wd Q' l a
 | [], a, hh => h a hh
 | o :: rest, a, hh => by
  unfold wpCalm at *
  split
  ·rename_i h1; rw [if_pos h1] at hh; exact wpCalm_mono h rest a hh
  ·rename_i h1
   rw [if_neg h1] at hh
   split
   ·rename_i h2; rw [if_pos h2] at hh; exact calm_mono (fun a => wpCalm_mono h rest a) hh
   ·rename_i h2; rw [if_neg h2] at hh; exact wpCalm_mono h rest _ hh
def cdst (o : Oper) : Option Tmp := if isAlloc o then none else o.dst
def cOp (P : Program) (ops : Array Oper) (wd : World) (i : Nat) (K : Act → Prop) (a : Act) : Prop :=
 match ops[i]? with
 | none => K a
 | some o => if isAlloc o then K a else if Region.wanted o (yielded ops a.tmps) then calm P wd o a K else K (a.put o.dst undef)
theorem cOp_mono {i : Nat} {a : Act} {K K' : Act → Prop} (h : ∀ a, K a → K' a) (hh : cOp P ops wd i K a) : cOp P ops wd i K' a := by
 unfold cOp at *
 split
 ·exact h _ (by simpa [*] using hh)
 ·rename_i o ho
  simp only [ho] at hh
  split
  ·rename_i hw; simp only [hw, if_true] at hh; exact h _ hh
  ·rename_i hw
   simp only [hw] at hh
   split
   ·rename_i hw2; simp only [hw2, if_true] at hh; exact calm_mono h hh
   ·rename_i hw2; simp only [hw2] at hh; exact h _ hh
def YieldsC (P : Program) (ops : Array Oper) (wd : World) (o : Oper) (v : Value) (a : Act) : Prop :=
 isAlloc o = true ∨ (isAlloc o = false ∧ ((Region.wanted o (yielded ops a.tmps) = true ∧ ∀ w0, (∃ p : Regrown, w0 = grow (redrawn wd p.d) p.os) → o.quietAt P a (BelowAt w0) w0 v) ∨ (Region.wanted o (yielded ops a.tmps) = false ∧ v = undef)))
theorem YieldsC.cOp {i : Nat} {o : Oper} {v : Value} {a : Act} (hi : ops[i]? = some o) (hy : YieldsC P ops wd o v a) {K : Act → Prop} (h : K (a.put (cdst o) v)) : cOp P ops wd i K a := by
 unfold W.cOp cdst at *
 simp only [hi]
 rcases hy with ha | ⟨ha, hy⟩
 ·rw [if_pos ha] at h ⊢; exact h
 ·rw [if_neg (by simp [ha])] at h ⊢
  rcases hy with ⟨hw, hv⟩ | ⟨hw, rfl⟩
  ·simp only [hw, if_true]; exact ⟨v, hv, h⟩
  ·simp only [hw, Bool.false_eq_true, if_false]; exact h
theorem yieldsC_of_cOp {i : Nat} {o : Oper} {a : Act} {K : Act → Prop} (hi : ops[i]? = some o) (h : cOp P ops wd i K a) : ∃ v, YieldsC P ops wd o v a ∧ K (a.put (cdst o) v) := by
 unfold cOp cdst at *
 simp only [hi] at h
 by_cases ha : isAlloc o = true
 ·rw [if_pos ha] at h ⊢; exact ⟨undef, .inl ha, h⟩
 ·rw [if_neg ha] at h ⊢
  by_cases hw : Region.wanted o (yielded ops a.tmps) = true
  ·rw [if_pos hw] at h; obtain ⟨v, h1, h2⟩ := h; exact ⟨v, .inr ⟨by simpa using ha, .inl ⟨hw, h1⟩⟩, h2⟩
  ·rw [if_neg hw] at h; exact ⟨undef, .inr ⟨by simpa using ha, .inr ⟨by simpa using hw, rfl⟩⟩, h⟩
theorem cOp_put {j : Nat} {oi oj : Oper} {v : Value} (hj : ops[j]? = some oj) (hap : oi.apart ops oj = true)
  (hsi : ∀ cs b, oi.op ≠ .select cs b) (hsj : ∀ cs b, oj.op ≠ .select cs b) {K : Act → Prop} {a : Act}
  (hy : YieldsC P ops wd oi v a) (h : cOp P ops wd j K (a.put (cdst oi) v)) :
  cOp P ops wd j (fun a' => YieldsC P ops wd oi v a' ∧ K (a'.put (cdst oi) v)) a := by
 by_cases hia : isAlloc oi = true
 ·have e : cdst oi = none := if_pos hia
  rw [e] at h ⊢
  exact cOp_mono (fun a' h' => ⟨.inl hia, h'⟩) h
 have e : cdst oi = oi.dst := if_neg hia
 rw [e] at h ⊢
 obtain ⟨h1, h2, h3⟩ := Oper.apart_spec hap
 have keep : ∀ (a : Act), YieldsC P ops wd oi v a → ∀ u, YieldsC P ops wd oi v (a.put oj.dst u) := fun a hy u => by
  unfold YieldsC Oper.quietAt at *
  rw [execOp_put oi hsi a oj.dst u h3, wanted_put oi a oj.dst u h3]
  exact hy
 unfold cOp at *
 simp only [hj] at *
 split
 ·rename_i hja; rw [if_pos hja] at h; exact ⟨hy, h⟩
 ·rename_i hja
  rw [if_neg hja] at h
  rw [wanted_put oj a oi.dst v h1] at h
  split
  ·rename_i hw
   rw [if_pos hw] at h
   obtain ⟨u, h4, h5⟩ := h
   refine ⟨u, fun w0 hw0 => ?_, keep a hy u, by rw [← Act.put_comm a v u h2]; exact h5⟩
   have := h4 w0 hw0
   unfold Oper.quietAt at *
   rwa [execOp_put oj hsj a oi.dst v h1] at this
  ·rename_i hw
   rw [if_neg hw] at h
   exact ⟨keep a hy _, by rw [← Act.put_comm a v undef h2]; exact h⟩

/-- whatever order the first n operations come up in -/
def anyCalm (P : Program) (md : Region.Mode) (ops : Array Oper) (wd : World) (n : Nat) (L : Array Bool → Act → Prop) : Nat → Array Bool → Act → Prop
 | 0, listed, a => L listed a
 | f + 1, listed, a =>
  Region.ready md ops listed ≠ [] ∧ ∀ i ∈ Region.ready md ops listed, i < n ∧ cOp P ops wd i (anyCalm P md ops wd n L f (listed.setIfInBounds i true)) a

theorem calm_first {n i : Nat} {oi : Oper} {v : Value} {L : Array Bool → Act → Prop} (hi : ops[i]? = some oi) (hsel : ∀ (j : Nat) (o : Oper) cs b, ops[j]? = some o → o.op ≠ .select cs b)
  (hs : Region.sinkB md ops n = true) (hc : Region.chainB md ops n = true) (hn : n < ops.size) (hin : i < n)
  (hdone : ∀ listed a, L listed a → ∀ j ∈ Region.ready md ops listed, n ≤ j) :
  ∀ (f : Nat) (listed : Array Bool) (a : Act), HeadInv md ops n listed →
   (∀ j oj, ops[j]? = some oj → j ≠ i → listed.getD j true = false → (∀ e ∈ oj.after, Region.binds md e = true → e.on ≠ i) → oi.apart ops oj = true) →
   i ∈ Region.ready md ops listed → YieldsC P ops wd oi v a →
   anyCalm P md ops wd n L f (listed.setIfInBounds i true) (a.put (cdst oi) v) → anyCalm P md ops wd n L (f + 1) listed a := by
 intro f
 induction f with
 | zero =>
  intro listed a inv _ hr hy H
  have hun := (mem_ready.1 hr).1
  refine ⟨fun h => (by rw [h] at hr; cases hr), fun j hj => ?_⟩
  have hjn : j < n := by
   rcases Nat.lt_or_ge j n with h | h
   ·exact h
   ·exact absurd hj (tail_waits hs hc hn inv _ i rfl hin hun j h)
  refine ⟨hjn, ?_⟩
  by_cases hji : j = i
  ·subst hji; exact hy.cOp hi H
  ·have := hdone _ _ H j (ready_mono hj hji)
   omega
 | succ f ih =>
  intro listed a inv hfree hr hy H
  have hun := (mem_ready.1 hr).1
  refine ⟨fun h => (by rw [h] at hr; cases hr), fun j hj => ?_⟩
  have hjn : j < n := by
   rcases Nat.lt_or_ge j n with h | h
   ·exact h
   ·exact absurd hj (tail_waits hs hc hn inv _ i rfl hin hun j h)
  refine ⟨hjn, ?_⟩
  by_cases hji : j = i
  ·subst hji; exact hy.cOp hi H
  ·have h1 := (H.2 j (ready_mono hj hji)).2
   obtain ⟨hjun, oj, hoj, hall⟩ := mem_ready.1 hj
   have hnot : ∀ e ∈ oj.after, Region.binds md e = true → e.on ≠ i := fun e he hb heq => by
    have h1 := hall e he hb
    rw [heq, getD_both hun] at h1
    cases h1
   have h2 := cOp_put hoj (hfree j oj hoj hji hjun hnot) (fun cs b => hsel i oi cs b hi) (fun cs b => hsel j oj cs b hoj) hy h1
   have hfree' : ∀ k ok, ops[k]? = some ok → k ≠ i → (listed.setIfInBounds j true).getD k true = false →
     (∀ e ∈ ok.after, Region.binds md e = true → e.on ≠ i) → oi.apart ops ok = true := fun k ok hk hki hun hno => by
    refine hfree k ok hk hki ?_ hno
    by_cases hjk : j = k
    ·subst hjk; exact hjun
    ·rw [getD_set_ne true hjk] at hun; exact hun
   refine cOp_mono (fun a' h3 => ih (listed.setIfInBounds j true) a' (inv.set hj hjn) hfree' (ready_mono hr (Ne.symm hji)) h3.1 ?_) h2
   rw [Array.setIfInBounds_comm _ _ hji]
   exact h3.2

theorem calm_lex {n g : Nat} {Lq : Act → Prop} (hsel : Region.noSelect ops = true) (hs : Region.sinkB md ops n = true) (hc : Region.chainB md ops n = true) (hn : n < ops.size) :
  ∀ (l : List Oper) (k : Nat) (listed : Array Bool) (a : Act), (∀ j, j < l.length → l[j]? = ops[k + j]?) → k + l.length = n → HeadInv md ops n listed →
  Region.lexHead md ops g l.length k listed = true → wpCalm P ops wd Lq l a → (∀ i, i < k → listed.getD i false = true) →
  anyCalm P md ops wd n (fun listed' a' => (Region.seqB md ops g n listed' = true ∧ ∀ i, i < n → listed'.getD i false = true) ∧ Lq a') l.length listed a
 | [], k, listed, a, _, hk, _, hB, h, hl => by
  have : k = n := by simpa using hk
  subst this
  exact ⟨⟨by simpa [Region.lexHead] using hB, hl⟩, h⟩
 | o :: l, k, listed, a, hl, hk, inv, hB, h, hd => by
  have h0 : ops[k]? = some o := by simpa using (hl 0 (by simp)).symm
  simp only [List.length_cons, Region.lexHead, Bool.and_eq_true] at hB
  obtain ⟨⟨hr, hf⟩, hB'⟩ := hB
  have hkn : k < n := by simp only [List.length_cons] at hk; omega
  have hr' : k ∈ Region.ready md ops listed := by simpa using hr
  have hst : cOp P ops wd k (wpCalm P ops wd Lq l) a := by unfold cOp; simp only [h0]; exact h
  obtain ⟨v, hy, hK⟩ := yieldsC_of_cOp h0 hst
  have hlt : k < listed.size := by
   have h1 := (mem_ready.1 hr').1
   rcases Nat.lt_or_ge k listed.size with h | h
   ·exact h
   ·simp [Array.getElem?_eq_none h] at h1
  exact calm_first h0 (Region.noSelect_spec hsel) hs hc hn hkn (fun listed' a' hL => seqB_ready hL.1.1) l.length listed a inv (Region.free_spec h0 hf) hr' hy
   (calm_lex hsel hs hc hn l (k + 1) _ _ (fun j hj => by have := hl (j + 1) (by simp; omega); simpa [Nat.add_assoc, Nat.add_comm 1 j] using this) (by simp only [List.length_cons] at hk; omega) (inv.set hr' hkn) hB' hK (fun i hi => by
    by_cases e : i = k
    ·subst e; simp [hlt]
    ·exact getD_set_true (hd i (by omega))))

/-! ### where the new variables lie -/
def slotOf (ops : Array Oper) (i : Nat) : Option Tmp := (ops[i]?).bind (·.dst)
def ptrTo (m : Nat) : Value := .pointer (some ⟨m, 0, none⟩)
def fill (ops : Array Oper) : List (Nat × Nat) → Act → Act
 | [], a => a
 | x :: L, a => (fill ops L a).put (slotOf ops x.1) (ptrTo x.2)
def allocsApart (ops : Array Oper) (n : Nat) : Bool :=
 (List.range n).all fun i => (List.range n).all fun j => i == j || (match ops[i]?, ops[j]? with | some oi, some oj => !isAlloc oi || oi.apart ops oj | _, _ => true)
theorem allocsApart_spec {n i j : Nat} {oi oj : Oper} (h : allocsApart ops n = true) (hi : i < n) (hj : j < n) (hij : i ≠ j) (ei : ops[i]? = some oi) (ej : ops[j]? = some oj) (ha : isAlloc oi = true) : oi.apart ops oj = true := by
 unfold allocsApart at h
 have h1 := List.all_eq_true.1 h i (List.mem_range.2 hi)
 have h2 := List.all_eq_true.1 h1 j (List.mem_range.2 hj)
 simp only [ei, ej, ha, Bool.not_true, Bool.false_or, Bool.or_eq_true, beq_iff_eq] at h2
 rcases h2 with h2 | h2
 ·exact absurd h2 hij
 ·exact h2
structure Fits (ops : Array Oper) (wd : World) (z : TypeId → Obj) (n : Nat) (listed : Array Bool) (L : List (Nat × Nat)) (w : World) : Prop where
 grown : ∃ p : Regrown, w = grow (redrawn wd p.d) p.os
 all : ∀ i o, i < n → listed.getD i false = true → ops[i]? = some o → isAlloc o = true → i ∈ L.map (·.1)
 mem : ∀ x ∈ L, x.1 < n ∧ listed.getD x.1 false = true ∧ ∃ o, ops[x.1]? = some o ∧ isAlloc o = true ∧ wd.heap.size ≤ x.2 ∧ w.heap[x.2]? = some (z (allocType o))
 ni : (L.map (·.1)).Nodup
 nm : (L.map (·.2)).Nodup
theorem Fits.step {z : TypeId → Obj} {n i : Nat} {listed : Array Bool} {L : List (Nat × Nat)} {w w' : World} (h : Fits ops wd z n listed L w) (hb : BelowAt w w') (hi : ∀ o, ops[i]? = some o → isAlloc o = false) : Fits ops wd z n (listed.setIfInBounds i true) L w' := by
 refine ⟨grown_trans h.grown hb, fun j o hj hl ho ha => ?_, fun x hx => ?_, h.ni, h.nm⟩
 ·by_cases e : j = i
  ·subst e; rw [hi o ho] at ha; cases ha
  ·exact h.all j o hj (by rw [getD_set_ne false (Ne.symm e)] at hl; exact hl) ho ha
 ·obtain ⟨h1, h2, o, h3, h4, h5, h6⟩ := h.mem x hx
  have hm : x.2 < w.heap.size := by
   rcases Nat.lt_or_ge x.2 w.heap.size with h | h
   ·exact h
   ·rw [Array.getElem?_eq_none h] at h6; cases h6
  exact ⟨h1, getD_set_true h2, o, h3, h4, h5, (hb.block x.2 hm).trans h6⟩
theorem below_alloc_at (w : World) (o : Obj) : BelowAt w (w.alloc o) := (Below.refl _ _).alloc (Nat.le_refl _) _
theorem Fits.new {z : TypeId → Obj} {n i : Nat} {listed : Array Bool} {L : List (Nat × Nat)} {w : World} {o : Oper} (h : Fits ops wd z n listed L w) (hin : i < n) (hr : i ∈ Region.ready md ops listed) (ho : ops[i]? = some o) (ha : isAlloc o = true) :
  Fits ops wd z n (listed.setIfInBounds i true) ((i, w.heap.size) :: L) (w.alloc (z (allocType o))) := by
 have hun := getD_both (mem_ready.1 hr).1
 have hlt : i < listed.size := by
  have h1 := (mem_ready.1 hr).1
  rcases Nat.lt_or_ge i listed.size with h | h
  ·exact h
  ·simp [Array.getElem?_eq_none h] at h1
 have hnew : ∀ x ∈ L, x.1 ≠ i := fun x hx e => by
  have := (h.mem x hx).2.1
  rw [e, hun] at this; cases this
 have hold : ∀ x ∈ L, x.2 < w.heap.size := fun x hx => by
  obtain ⟨-, -, o, -, -, -, h6⟩ := h.mem x hx
  rcases Nat.lt_or_ge x.2 w.heap.size with h | h
  ·exact h
  ·rw [Array.getElem?_eq_none h] at h6; cases h6
 refine ⟨grown_trans h.grown (below_alloc_at w _), fun j oj hj hl hoj haj => ?_, fun x hx => ?_, ?_, ?_⟩
 ·by_cases e : j = i
  ·subst e; simp
  ·have := h.all j oj hj (by rw [getD_set_ne false (Ne.symm e)] at hl; exact hl) hoj haj
   simp only [List.map_cons, List.mem_cons]
   exact .inr this
 ·rcases List.mem_cons.1 hx with rfl | hx
  ·exact ⟨hin, by simp [hlt], o, ho, ha, (grown_below h.grown).size, heap_alloc_new w _⟩
  ·obtain ⟨h1, h2, o', h3, h4, h5, h6⟩ := h.mem x hx
   exact ⟨h1, getD_set_true h2, o', h3, h4, h5, ((below_alloc_at w _).block x.2 (hold x hx)).trans h6⟩
 ·simp only [List.map_cons, List.nodup_cons]
  refine ⟨fun hm => ?_, h.ni⟩
  obtain ⟨x, hx, e⟩ := List.mem_map.1 hm
  exact hnew x hx e
 ·simp only [List.map_cons, List.nodup_cons]
  refine ⟨fun hm => ?_, h.nm⟩
  obtain ⟨x, hx, e⟩ := List.mem_map.1 hm
  have := hold x hx
  omega
theorem slot_apart {n : Nat} (hap : allocsApart ops n = true) {i j : Nat} {oi oj : Oper} (hi : i < n) (hj : j < n) (hij : i ≠ j) (ei : ops[i]? = some oi) (ej : ops[j]? = some oj) (ha : isAlloc oi = true) :
  (∀ d, slotOf ops i = some d → d ∉ oj.looksAt ops) ∧ (∀ d, slotOf ops i = some d → oj.dst ≠ some d) := by
 obtain ⟨h1, h2, -⟩ := Oper.apart_spec (allocsApart_spec hap hi hj hij ei ej ha)
 have e : slotOf ops i = oi.dst := by unfold slotOf; rw [ei]; rfl
 rw [e]
 exact ⟨h1, h2⟩
theorem fill_same {z : TypeId → Obj} {n j : Nat} {oj : Oper} {listed : Array Bool} {w : World} (hap : allocsApart ops n = true) (hsj : ∀ cs b, oj.op ≠ .select cs b) (hj : j < n) (ej : ops[j]? = some oj) :
  ∀ (L : List (Nat × Nat)) (a : Act), (∀ x ∈ L, x.1 < n ∧ x.1 ≠ j ∧ ∃ o, ops[x.1]? = some o ∧ isAlloc o = true) →
   execOp (fill ops L a).eval oj = execOp a.eval oj ∧ Region.wanted oj (yielded ops (fill ops L a).tmps) = Region.wanted oj (yielded ops a.tmps) ∧ ∀ v, (fill ops L a).put oj.dst v = fill ops L (a.put oj.dst v)
 | [], a, _ => ⟨rfl, rfl, fun _ => rfl⟩
 | x :: L, a, h => by
  obtain ⟨h1, h2, h3⟩ := fill_same (z := z) (listed := listed) (w := w) hap hsj hj ej L a (fun y hy => h y (List.mem_cons_of_mem _ hy))
  obtain ⟨g1, g2, o, g3, g4⟩ := h x (List.mem_cons_self ..)
  obtain ⟨s1, s2⟩ := slot_apart hap g1 hj g2 g3 ej g4
  unfold fill
  refine ⟨?_, ?_, fun v => ?_⟩
  ·rw [execOp_put oj hsj _ _ _ s1, h1]
  ·rw [wanted_put oj _ _ _ s1, h2]
  ·rw [Act.put_comm _ _ _ s2, h3]
theorem alloc_op {z : TypeId → Obj} {o : Oper} (ha : isAlloc o = true) (hz : ∀ w, (Instr.alloc (allocType o) true (.tuple #[])).run P w = .ok (.pointer (some ⟨w.heap.size, 0, none⟩)) (w.alloc (z (allocType o)))) (ρ : Operand → Value) (w : World) :
  (execOp ρ o).run P w = .ok (.value (ptrTo w.heap.size)) (w.alloc (z (allocType o))) := by
 unfold execOp
 rw [(isAlloc_spec ha).1]
 simp only [Sem.run_bind, hz, Result.andThen_ok, Sem.run_pure, ptrTo]
theorem any_of_calm {z : TypeId → Obj} {n g : Nat} {L : Array Bool → Act → Prop} {Q' : Exit → Act → World → Prop} (hap : allocsApart ops n = true) (hsel : ∀ (j : Nat) (o : Oper) cs b, ops[j]? = some o → o.op ≠ .select cs b)
  (hz : ∀ i o, i < n → ops[i]? = some o → isAlloc o = true → ∀ w, (Instr.alloc (allocType o) true (.tuple #[])).run P w = .ok (.pointer (some ⟨w.heap.size, 0, none⟩)) (w.alloc (z (allocType o))))
  (hL : ∀ listed a, L listed a → ∀ M w, Fits ops wd z n listed M w → wpAny P md ops Q' g listed (fill ops M a) w) :
  ∀ (f : Nat) (listed : Array Bool) (a : Act) (M : List (Nat × Nat)) (w : World), Fits ops wd z n listed M w → anyCalm P md ops wd n L f listed a → wpAny P md ops Q' (f + g) listed (fill ops M a) w
 | 0, listed, a, M, w, hw, h => by rw [Nat.zero_add]; exact hL _ _ h M w hw
 | f + 1, listed, a, M, w, hw, h => by
  rw [show f + 1 + g = (f + g) + 1 by omega]
  refine ⟨fun h0 => absurd h0 h.1, fun i hi => ?_⟩
  obtain ⟨hin, hc⟩ := h.2 i hi
  obtain ⟨hun, oi, hoi, -⟩ := mem_ready.1 hi
  have hne : ∀ x ∈ M, x.1 < n ∧ x.1 ≠ i ∧ ∃ o, ops[x.1]? = some o ∧ isAlloc o = true := fun x hx => by
   obtain ⟨h1, h2, o, h3, h4, -⟩ := hw.mem x hx
   refine ⟨h1, fun e => ?_, o, h3, h4⟩
   rw [e, getD_both hun] at h2; cases h2
  obtain ⟨e1, e2, e3⟩ := fill_same (z := z) (listed := listed) (w := w) hap (fun cs b => hsel i oi cs b hoi) hin hoi M a hne
  unfold cOp at hc
  unfold wpOp
  simp only [hoi] at hc ⊢
  by_cases ha : isAlloc oi = true
  ·rw [if_pos ha] at hc
   have hwn : Region.wanted oi (yielded ops (fill ops M a).tmps) = true := by unfold Region.wanted; rw [(isAlloc_spec ha).2]
   rw [if_pos hwn]
   left
   unfold Oper.wp
   rw [alloc_op ha (hz i oi hin hoi ha)]
   show wpAny P md ops Q' (f + g) _ ((fill ops M a).put oi.dst (ptrTo w.heap.size)) _
   have := any_of_calm hap hsel hz hL f _ a ((i, w.heap.size) :: M) _ (hw.new hin hi hoi ha) hc
   have e : slotOf ops i = oi.dst := by unfold slotOf; rw [hoi]; rfl
   unfold fill at this
   rw [e] at this
   exact this
  ·rw [if_neg ha] at hc
   have hna : ∀ o, ops[i]? = some o → isAlloc o = false := fun o ho => by rw [hoi] at ho; cases ho; simpa using ha
   rw [e2]
   split
   ·rename_i hwn
    rw [if_pos hwn] at hc
    left
    obtain ⟨v, h1, h2⟩ := hc
    have h3 := h1 w hw.grown
    unfold Oper.quietAt at h3
    unfold Oper.wp
    rw [e1]
    generalize (execOp a.eval oi).run P w = r at h3
    cases r with
    | ok nx w' =>
     cases nx <;> simp only [Oper.quietUpon] at h3 <;> simp only [Oper.upon]
     case value u =>
      obtain ⟨q1, q2⟩ := h3
      rw [q1, q2, e3]
      exact any_of_calm hap hsel hz hL f _ _ M w (hw.step (Below.refl _ _) hna) h2
     case skip =>
      obtain ⟨q1, q2⟩ := h3
      rw [q1, ← q2, e3]
      exact any_of_calm hap hsel hz hL f _ _ M w (hw.step (Below.refl _ _) hna) h2
     case enter fn args =>
      obtain ⟨q1, q2⟩ := h3
      rw [q1]
      refine q2.mono fun e w'' ⟨he, hb⟩ => ?_
      subst he
      simp only
      rw [e3]
      exact any_of_calm hap hsel hz hL f _ _ M w'' (hw.step hb hna) h2
    | halt x w' => simp only [Oper.quietUpon] at h3
   ·rename_i hwn
    rw [if_neg hwn] at hc
    rw [e3]
    exact any_of_calm hap hsel hz hL f _ _ M w (hw.step (Below.refl _ _) hna) hc
theorem fill_perm {n : Nat} (hap : allocsApart ops n = true) {L M : List (Nat × Nat)} (h : L.Perm M) : ∀ (a : Act), (∀ x ∈ L, x.1 < n ∧ ∃ o, ops[x.1]? = some o ∧ isAlloc o = true) → (L.map (·.1)).Nodup → fill ops L a = fill ops M a := by
 induction h with
 | nil => intro a _ _; rfl
 | cons x _ ih =>
  intro a h1 h2
  simp only [List.map_cons, List.nodup_cons] at h2
  unfold fill
  rw [ih a (fun y hy => h1 y (List.mem_cons_of_mem _ hy)) h2.2]
 | swap x y L =>
  intro a h1 h2
  simp only [List.map_cons, List.nodup_cons, List.mem_cons, not_or] at h2
  obtain ⟨ex, ox, hx, ax⟩ := h1 x (by simp)
  obtain ⟨ey, oy, hy, ay⟩ := h1 y (by simp)
  unfold fill
  unfold fill
  refine Act.put_comm _ _ _ fun d hd => ?_
  have e : slotOf ops y.1 = oy.dst := by unfold slotOf; rw [hy]; rfl
  rw [e]
  exact (slot_apart hap ex ey (Ne.symm h2.1.1) hx hy ax).2 d hd
 | trans h12 _ ih1 ih2 =>
  intro a h1 h2
  rw [ih1 a h1 h2]
  exact ih2 a (fun x hx => h1 x (h12.mem_iff.2 hx)) ((h12.map _).nodup_iff.1 h2)
end
def allocIdx (l : List Oper) (n : Nat) : List Nat := (List.range n).filter fun i => match l[i]? with | some o => isAlloc o | none => false
def tyAt (l : List Oper) (i : Nat) : TypeId := match l[i]? with | some o => allocType o | none => 0
theorem mem_allocIdx {l : List Oper} {n i : Nat} : i ∈ allocIdx l n ↔ i < n ∧ ∃ o, l[i]? = some o ∧ isAlloc o = true := by
 unfold allocIdx
 rw [List.mem_filter, List.mem_range]
 refine and_congr_right fun _ => ?_
 cases h : l[i]? with
 | none => simp
 | some o => simp
/-- one walk for every order: the operations ahead of n only read, call what makes new memory, or lay new variables (at Al; g: where) -/
theorem wp_calm_tail {P : Program} {id : Nat} {Q : Exit → Act → World → Prop} {a : Act} {w : World} {l : List Oper} (z : TypeId → Obj) (n : Nat) (Al : List Nat) (hm : P.follows .mixedOrders = true) (hB : Region.lexTailB .any l.toArray n = true)
  (hA : allocsApart l.toArray n = true) (hAl : allocIdx l n = Al)
  (hz : ∀ i ∈ Al, ∀ w, (Instr.alloc (tyAt l i) true (.tuple #[])).run P w = .ok (.pointer (some ⟨w.heap.size, 0, none⟩)) (w.alloc (z (tyAt l i))))
  (h : wpCalm P l.toArray w (fun a' => ∀ (g : Nat → Nat) w', Below w.heap.size w w' → (∀ i ∈ Al, w.heap.size ≤ g i ∧ w'.heap[g i]? = some (z (tyAt l i))) → (∀ i ∈ Al, ∀ j ∈ Al, i ≠ j → g i ≠ g j) →
   wpList P l.toArray Q (l.drop n) (fill l.toArray (Al.map fun i => (i, g i)) a') w') (l.take n) a) : (Code.region id l.toArray true).wp P Q a w := by
 subst hAl
 simp only [Region.lexTailB, Bool.and_eq_true, decide_eq_true_eq] at hB
 obtain ⟨⟨⟨⟨hsel, hn⟩, hs⟩, hc⟩, hlex⟩ := hB
 have hn' : n < l.length := by simpa using hn
 have htl : (l.take n).length = n := by simp; omega
 have hdl : (l.drop n).length = l.toArray.size - n := by simp
 have inv0 : HeadInv .any l.toArray n (Array.replicate l.toArray.size false) :=
  ⟨by simp, fun j oj _ hl => (by rw [getD_replicate_false] at hl; cases hl), fun t _ ht => getD_in (by simpa using ht) (getD_replicate_false _ _)⟩
 have H := calm_lex (wd := w) (md := .any) (g := l.toArray.size - n) hsel hs hc hn (l.take n) 0 _ a (fun j hj => by
  have hj' : j < n := by rw [htl] at hj; exact hj
  simp [hj']) (by simpa using htl) inv0 (by rw [htl]; exact hlex) h (fun i hi => by omega)
 refine wp_region_any hm ?_
 have hfit : Fits l.toArray w z n (Array.replicate l.toArray.size false) [] { w with drawn := w.drawn + 1 } :=
  ⟨⟨⟨w.drawn + 1, #[]⟩, by rw [grow_empty]; rfl⟩, fun i o _ hl _ _ => (by rw [getD_replicate_false] at hl; cases hl), fun x hx => by simp at hx, by simp, by simp⟩
 have := any_of_calm (wd := w) (Q' := Q) (g := l.toArray.size - n) hA (Region.noSelect_spec hsel) (fun i o hi ho ha => by
   have ho' : l[i]? = some o := by simpa using ho
   have := hz i (mem_allocIdx.2 ⟨hi, o, ho', ha⟩)
   unfold tyAt at this
   rw [ho'] at this
   exact this) (fun listed a' hL M w' hw' => by
  obtain ⟨⟨hseq, hall⟩, hL⟩ := hL
  have hgd : ∀ x ∈ M, ((M.find? (fun y => y.1 == x.1)).map (·.2)).getD 0 = x.2 := fun x hx => by
   cases hf : M.find? (fun y => y.1 == x.1) with
   | none => have := List.find?_eq_none.1 hf x hx; simp at this
   | some y =>
    have hy := List.mem_of_find?_eq_some hf
    have e := List.find?_some hf
    have e : y.1 = x.1 := by simpa using e
    have hn2 := hw'.ni
    have : y = x := by
     have := inj_fst M hn2 y hy x hx e
     exact this
    rw [this]; rfl
  have hmem : ∀ i, i ∈ M.map (·.1) ↔ i ∈ allocIdx l n := fun i => by
   constructor
   ·intro hi
    obtain ⟨x, hx, rfl⟩ := List.mem_map.1 hi
    obtain ⟨h1, -, o, h3, h4, -⟩ := hw'.mem x hx
    exact mem_allocIdx.2 ⟨h1, o, by simpa using h3, h4⟩
   ·intro hi
    obtain ⟨h1, o, h2, h3⟩ := mem_allocIdx.1 hi
    exact hw'.all i o h1 (hall i h1) (by simpa using h2) h3
  have hperm : (M.map (·.1)).Perm (allocIdx l n) := (List.perm_ext_iff_of_nodup hw'.ni ((List.nodup_range).filter _)).2 hmem
  have hM : M = (M.map (·.1)).map (fun i => (i, ((M.find? (fun y => y.1 == i)).map (·.2)).getD 0)) := by
   rw [List.map_map]
   conv => lhs; rw [← List.map_id M]
   refine List.map_congr_left fun x hx => ?_
   show x = (x.1, _)
   simp only [hgd x hx]
  have hP2 : M.Perm ((allocIdx l n).map (fun i => (i, ((M.find? (fun y => y.1 == i)).map (·.2)).getD 0))) := by
   conv => lhs; rw [hM]
   exact hperm.map _
  have hfp := fill_perm hA hP2 a' (fun x hx => by obtain ⟨h1, -, o, h3, h4, -⟩ := hw'.mem x hx; exact ⟨h1, o, h3, h4⟩) hw'.ni
  rw [hfp]
  have hat : ∀ i ∈ allocIdx l n, ∃ x ∈ M, x.1 = i ∧ ((M.find? (fun y => y.1 == i)).map (·.2)).getD 0 = x.2 := fun i hi => by
   obtain ⟨x, hx, rfl⟩ := List.mem_map.1 ((hmem i).2 hi)
   exact ⟨x, hx, rfl, hgd x hx⟩
  have hlast := hL (fun i => ((M.find? (fun y => y.1 == i)).map (·.2)).getD 0) w' (grown_below hw'.grown) (fun i hi => by
    obtain ⟨x, hx, rfl, e⟩ := hat i hi
    obtain ⟨-, -, o, h3, h4, h5, h6⟩ := hw'.mem x hx
    have h3' : l[x.1]? = some o := by simpa using h3
    simp only [e]
    refine ⟨h5, ?_⟩
    unfold tyAt
    rw [h3']
    exact h6) (fun i hi j hj hij e => by
    obtain ⟨x, hx, rfl, ex⟩ := hat i hi
    obtain ⟨y, hy, rfl, ey⟩ := hat j hj
    simp only [ex, ey] at e
    exact hij (congrArg (·.1) (inj_snd M hw'.nm x hx y hy e)))
  have := wpAny_of_seq (md := .any) (Q' := Q) (l.drop n) n listed _ w' (fun j => by simp [List.getElem?_drop]) (by rw [hdl]; exact hseq) hlast
  rwa [hdl] at this) _ _ _ [] _ hfit H
 rw [htl, show n + (l.toArray.size - n) = l.toArray.size by omega] at this
 exact this
/-- one new variable, in slot d -/
theorem wp_calm_tail1 {P : Program} {id : Nat} {Q : Exit → Act → World → Prop} {a : Act} {w : World} {l : List Oper} (n i : Nat) (d : Tmp) (ty : TypeId) (z : Obj) (hm : P.follows .mixedOrders = true) (hB : Region.lexTailB .any l.toArray n = true)
  (hA : allocsApart l.toArray n = true) (hAl : allocIdx l n = [i]) (hd : slotOf l.toArray i = some d) (hty : tyAt l i = ty)
  (hz : ∀ w, (Instr.alloc ty true (.tuple #[])).run P w = .ok (.pointer (some ⟨w.heap.size, 0, none⟩)) (w.alloc z))
  (h : wpCalm P l.toArray w (fun a' => ∀ (m : Nat) w', Below w.heap.size w w' → w.heap.size ≤ m → w'.heap[m]? = some z →
   wpList P l.toArray Q (l.drop n) (a'.put (some d) (.pointer (some ⟨m, 0, none⟩))) w') (l.take n) a) : (Code.region id l.toArray true).wp P Q a w := by
 refine wp_calm_tail (fun _ => z) n [i] hm hB hA hAl (fun j hj w => by rw [List.mem_singleton.1 hj, hty]; exact hz w) ?_
 have : ∀ a' : Act, (∀ (m : Nat) w', Below w.heap.size w w' → w.heap.size ≤ m → w'.heap[m]? = some z → wpList P l.toArray Q (l.drop n) (a'.put (some d) (.pointer (some ⟨m, 0, none⟩))) w') →
   ∀ (g : Nat → Nat) w', Below w.heap.size w w' → (∀ i' ∈ [i], w.heap.size ≤ g i' ∧ w'.heap[g i']? = some z) → (∀ i' ∈ [i], ∀ j' ∈ [i], i' ≠ j' → g i' ≠ g j') → wpList P l.toArray Q (l.drop n) (fill l.toArray ([i].map fun i => (i, g i)) a') w' := fun a' h g w' hb h1 _ => by
  have := h1 i (by simp)
  have k := h (g i) w' hb this.1 this.2
  show wpList P l.toArray Q (l.drop n) (Act.put a' (slotOf l.toArray i) (ptrTo (g i))) w'
  rw [hd]; exact k
 exact wpCalm_mono this (l.take n) a h
/-- two new variables, in slots d and e -/
theorem wp_calm_tail2 {P : Program} {id : Nat} {Q : Exit → Act → World → Prop} {a : Act} {w : World} {l : List Oper} (n i j : Nat) (d e : Tmp) (ty te : TypeId) (z ze : Obj) (hm : P.follows .mixedOrders = true) (hB : Region.lexTailB .any l.toArray n = true)
  (hA : allocsApart l.toArray n = true) (hAl : allocIdx l n = [i, j]) (hd : slotOf l.toArray i = some d) (he : slotOf l.toArray j = some e) (hty : tyAt l i = ty) (hte : tyAt l j = te) (hij : i ≠ j) (hsame : ty = te → z = ze)
  (hz : ∀ w, (Instr.alloc ty true (.tuple #[])).run P w = .ok (.pointer (some ⟨w.heap.size, 0, none⟩)) (w.alloc z))
  (hze : ∀ w, (Instr.alloc te true (.tuple #[])).run P w = .ok (.pointer (some ⟨w.heap.size, 0, none⟩)) (w.alloc ze))
  (h : wpCalm P l.toArray w (fun a' => ∀ (m k : Nat) w', Below w.heap.size w w' → w.heap.size ≤ m → w'.heap[m]? = some z → w.heap.size ≤ k → w'.heap[k]? = some ze → m ≠ k →
   wpList P l.toArray Q (l.drop n) ((a'.put (some e) (.pointer (some ⟨k, 0, none⟩))).put (some d) (.pointer (some ⟨m, 0, none⟩))) w') (l.take n) a) : (Code.region id l.toArray true).wp P Q a w := by
 refine wp_calm_tail (fun t => if t = ty then z else ze) n [i, j] hm hB hA hAl (fun x hx w => ?_) ?_
 ·simp only [List.mem_cons, List.not_mem_nil, or_false] at hx
  rcases hx with rfl | rfl
  ·rw [hty, if_pos rfl]; exact hz w
  ·rw [hte]
   by_cases q : te = ty
   ·rw [if_pos q, q, hsame q.symm]; rw [← q]; exact hze w
   ·rw [if_neg q]; exact hze w
 have : ∀ a' : Act, (∀ (m k : Nat) w', Below w.heap.size w w' → w.heap.size ≤ m → w'.heap[m]? = some z → w.heap.size ≤ k → w'.heap[k]? = some ze → m ≠ k → wpList P l.toArray Q (l.drop n) ((a'.put (some e) (.pointer (some ⟨k, 0, none⟩))).put (some d) (.pointer (some ⟨m, 0, none⟩))) w') →
   ∀ (g : Nat → Nat) w', Below w.heap.size w w' → (∀ i' ∈ [i, j], w.heap.size ≤ g i' ∧ w'.heap[g i']? = some (if tyAt l i' = ty then z else ze)) → (∀ i' ∈ [i, j], ∀ j' ∈ [i, j], i' ≠ j' → g i' ≠ g j') → wpList P l.toArray Q (l.drop n) (fill l.toArray ([i, j].map fun i => (i, g i)) a') w' := fun a' h g w' hb h1 h2 => by
  have x := h1 i (by simp)
  have y := h1 j (by simp)
  rw [hty, if_pos rfl] at x
  have y2 : w'.heap[g j]? = some ze := by
   rw [hte] at y
   by_cases q : te = ty
   ·rw [if_pos q, hsame q.symm] at y; exact y.2
   ·rw [if_neg q] at y; exact y.2
  have k := h (g i) (g j) w' hb x.1 x.2 y.1 y2 (h2 i (by simp) j (by simp) hij)
  show wpList P l.toArray Q (l.drop n) (Act.put (Act.put a' (slotOf l.toArray j) (ptrTo (g j))) (slotOf l.toArray i) (ptrTo (g i))) w'
  rw [hd, he]; exact k
 exact wpCalm_mono this (l.take n) a h
end Go.Proofs.YtglilddlhibogaaGreatDoor.W
