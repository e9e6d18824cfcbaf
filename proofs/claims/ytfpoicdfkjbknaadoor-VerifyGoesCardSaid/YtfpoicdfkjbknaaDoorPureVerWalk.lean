/- What comes of all ways: plain laws on the walker's run. Conditions: the program's check gives nothing. -/
import Derived.Test.YtfpoicdfkjbknaaDoorPureVerOk
namespace Go.Proofs.YtfpoicdfkjbknaaDoor.P
open Go.RowKit (wrap64)
set_option linter.unusedSimpArgs false
set_option linter.unusedVariables false

theorem outOf_snoc (l : List B) (b : B) : outOf (l ++ [b]) = if l = [] then b else bjoin (outOf l) b := by
  cases l with
  | nil => rfl
  | cons x l => simp [outOf, List.foldl_append]
theorem outOf_ok : ∀ {l : List B}, (∀ b ∈ l, b.Ok) → (outOf l).Ok
  | [], _ => bnil_ok
  | x :: l, h => by
    unfold outOf
    have hx := h x (by simp)
    have hl : ∀ b ∈ l, b.Ok := fun b hb => h b (by simp [hb])
    clear h
    induction l generalizing x with
    | nil => exact hx
    | cons y l ih => exact ih (bjoin x y) (bjoin_ok hx (hl y (by simp))) (fun b hb => hl b (by simp [hb]))
theorem foldl_join_has {l : List B} {a : B} {n : Int} (h : a.Has n ∨ ∃ b ∈ l, b.Has n) : (l.foldl bjoin a).Has n := by
  induction l generalizing a with
  | nil => rcases h with h | ⟨b, hb, -⟩; exact h; simp at hb
  | cons y l ih =>
    refine ih ?_
    rcases h with h | ⟨b, hb, hn⟩
    · left; unfold bjoin B.Has at *; simp only; omega
    · rcases List.mem_cons.1 hb with e | hb
      · subst e; left; unfold bjoin B.Has at *; simp only; omega
      · exact .inr ⟨b, hb, hn⟩
theorem outOf_has {l : List B} {b : B} (hb : b ∈ l) {n : Int} (h : b.Has n) : (outOf l).Has n := by
  cases l with
  | nil => simp at hb
  | cons x l =>
    unfold outOf
    rcases List.mem_cons.1 hb with e | hb
    · subst e; exact foldl_join_has (.inl h)
    · exact foldl_join_has (.inr ⟨b, hb, h⟩)

/-- what a walk leaves -/
structure Keeps (w : Wk) (r : VR) : Prop where
  ok : (∀ b ∈ w.ends, b.Ok) → ∀ b ∈ r.2.ends, b.Ok
  more : ∃ l, r.2.ends = w.ends ++ l ∧ (r.1.1 = 0 → l ≠ [])
  looks : w.looks ≤ r.2.looks
  place : r.1.1 = 0 → r.1.2 = -1
theorem Keeps.looked {w : Wk} {r : VR} (h : Keeps ⟨w.looks + 1, w.ends⟩ r) : Keeps w r := ⟨h.ok, h.more, by have := h.looks; simp only at this; omega, h.place⟩
theorem Keeps.trans {w : Wk} {r r' : VR} (h : Keeps w r) (k : Keeps r.2 r') : Keeps w r' := by
  refine ⟨fun hw => k.ok (h.ok hw), ?_, Int.le_trans h.looks k.looks, k.place⟩
  obtain ⟨l, e, h1⟩ := h.more
  obtain ⟨l', e', h2⟩ := k.more
  refine ⟨l ++ l', by rw [e', e, List.append_assoc], fun h0 => ?_⟩
  have := h2 h0
  simp [this]
/-- two walks, of which one at least is one -/
theorem keeps_ways {f : VS → Int → Wk → VR} {pc : Int} {w : Wk} {x y : Option (VS × Int)} (hx : ∀ z, x = some z → ∀ w, Keeps w (f z.1 z.2 w)) (hy : ∀ z, y = some z → ∀ w, Keeps w (f z.1 z.2 w)) (h : x ≠ none ∨ y ≠ none) : Keeps w (waysOf f pc w (.go x y)) := by
  show Keeps w (thenOf (wayOf f x w) (wayOf f y))
  unfold thenOf wayOf
  cases x with
  | none =>
    cases y with
    | none => simp at h
    | some b => simp only; rw [if_neg (by simp)]; exact hy b rfl w
  | some a =>
    simp only
    split
    · exact hx a rfl w
    · rename_i h0
      cases y with
      | none =>
        have h0 : (f a.1 a.2 w).1.1 = 0 := by simpa using h0
        have k := hx a rfl w
        refine ⟨k.ok, ?_, k.looks, fun _ => rfl⟩
        obtain ⟨l, e, h1⟩ := k.more
        exact ⟨l, e, fun _ => h1 h0⟩
      | some b => exact (hx a rfl w).trans (hy b rfl _)
theorem vwalk_succ (S : Nat → Step) (k : Nat) (s : VS) (pc : Int) (w : Wk) : vwalk S (k + 1) s pc w =
    if 4000 < w.looks + 1 then ((4, pc), ⟨w.looks + 1, w.ends⟩) else waysOf (vwalk S k) pc ⟨w.looks + 1, w.ends⟩ (s.step (S pc.toNat) pc) := rfl
theorem step_err {s : VS} {t : Step} {pc e : Int} (hs : s.step t pc = .err e) : e ≠ 0 := by
  unfold VS.step VS.asks at hs
  repeat' split at hs
  all_goals first | (injection hs with e1; rw [← e1]; first | assumption | decide) | cases hs | (simp only at hs; split at hs <;> cases hs)
theorem vwalk_keeps {S : Nat → Step} {n : Nat} (hS : ∀ j, j < n → StepOk n j (S j)) : ∀ (k : Nat) (s : VS) (pc : Int) (w : Wk), VSOk s → 0 ≤ pc → pc < n → n ≤ pc + k → Keeps w (vwalk S k s pc w)
  | 0, s, pc, w, _, h0, h1, h2 => by omega
  | k + 1, s, pc, w, hs, h0, h1, h2 => by
    rw [vwalk_succ]
    split
    · exact ⟨fun h => h, ⟨[], by simp, fun h => by simp at h⟩, by simp only; omega, fun h => by simp at h⟩
    · refine Keeps.looked ?_
      have ht : StepOk n pc (S pc.toNat) := by have := hS pc.toNat (by omega); rwa [Int.toNat_of_nonneg h0] at this
      cases hr : s.step (S pc.toNat) pc with
      | done b =>
        have hb := step_done hs hr
        refine ⟨fun h c hc => ?_, ⟨[b], rfl, fun _ => by simp⟩, Int.le_refl _, fun _ => rfl⟩
        simp only [waysOf, List.mem_append, List.mem_singleton] at hc
        rcases hc with hc | rfl
        · exact h c hc
        · exact hb
      | err e => exact ⟨fun h => h, ⟨[], by simp [waysOf], fun h => absurd h (step_err hr)⟩, Int.le_refl _, fun h => absurd h (step_err hr)⟩
      | go x y =>
        obtain ⟨hx, hy, hxy⟩ := step_ways hs ht hr
        refine keeps_ways (fun z hz w => ?_) (fun z hz w => ?_) hxy
        · obtain ⟨a, b, c⟩ := hx z hz
          exact vwalk_keeps hS k z.1 z.2 w a (by omega) c (by omega)
        · obtain ⟨a, b, c⟩ := hy z hz
          exact vwalk_keeps hS k z.1 z.2 w a (by omega) c (by omega)
theorem wayOf_looks {f : VS → Int → Wk → VR} (hf : ∀ s pc w, w.looks ≤ 4000 → (f s pc w).1.1 = 0 → (f s pc w).2.looks ≤ 4000) (o : Option (VS × Int)) (w : Wk) (h : w.looks ≤ 4000) (h0 : (wayOf f o w).1.1 = 0) : (wayOf f o w).2.looks ≤ 4000 := by
  cases o with
  | none => exact h
  | some a => exact hf _ _ _ h h0
/-- a walk without an error has not looked too often -/
theorem vwalk_looks {S : Nat → Step} : ∀ (k : Nat) (s : VS) (pc : Int) (w : Wk), w.looks ≤ 4000 → (vwalk S k s pc w).1.1 = 0 → (vwalk S k s pc w).2.looks ≤ 4000
  | 0, s, pc, w, h, _ => h
  | k + 1, s, pc, w, h, h0 => by
    rw [vwalk_succ] at h0 ⊢
    by_cases hl : 4000 < w.looks + 1
    · rw [if_pos hl] at h0; simp at h0
    rw [if_neg hl] at h0 ⊢
    cases hr : s.step (S pc.toNat) pc with
    | done b => show w.looks + 1 ≤ 4000; omega
    | err e => show w.looks + 1 ≤ 4000; omega
    | go x y =>
      rw [hr] at h0
      show (thenOf (wayOf (vwalk S k) x ⟨w.looks + 1, w.ends⟩) (wayOf (vwalk S k) y)).2.looks ≤ 4000
      have h0' : (thenOf (wayOf (vwalk S k) x ⟨w.looks + 1, w.ends⟩) (wayOf (vwalk S k) y)).1.1 = 0 := h0
      unfold thenOf at h0' ⊢
      split at h0'
      · rename_i h1; exact absurd h0' h1
      · rename_i h1
        rw [if_neg h1]
        have e1 : (wayOf (vwalk S k) x ⟨w.looks + 1, w.ends⟩).1.1 = 0 := by simpa using h1
        exact wayOf_looks (vwalk_looks k) y _ (wayOf_looks (vwalk_looks k) x _ (by show w.looks + 1 ≤ 4000; omega) e1) h0'
theorem ways_first {f : VS → Int → Wk → VR} {pc : Int} {w : Wk} {s : VS} {n : Int} {y : Option (VS × Int)} (h : (f s n w).1.1 ≠ 0) : waysOf f pc w (.go (some (s, n)) y) = f s n w := if_pos h
theorem ways_second {f : VS → Int → Wk → VR} {pc : Int} {w : Wk} {s t : VS} {n m : Int} (h : (f s n w).1.1 = 0) : waysOf f pc w (.go (some (s, n)) (some (t, m))) = f t m (f s n w).2 := if_neg (by show ¬ (f s n w).1.1 ≠ 0; simp [h])
theorem ways_one {f : VS → Int → Wk → VR} {pc : Int} {w : Wk} {s : VS} {n : Int} (h : (f s n w).1.1 = 0 → (f s n w).1.2 = -1) : waysOf f pc w (.go (some (s, n)) none) = f s n w := by
  by_cases h0 : (f s n w).1.1 = 0
  · show thenOf (f s n w) (wayOf f none) = f s n w
    unfold thenOf
    rw [if_neg (by simp [h0])]
    show ((0, -1), (f s n w).2) = f s n w
    have h1 := h h0
    generalize f s n w = r at h0 h1
    obtain ⟨⟨e, p⟩, k⟩ := r
    have h0 : e = 0 := h0
    have h1 : p = -1 := h1
    rw [h0, h1]
  · exact ways_first h0
/-- a checked program's steps -/
theorem stepOk_of {S : Nat → Step} {n j : Nat} (hj : j < n) (h : at_ S n j = 0) (hn : In64 (S j).num) : StepOk n j (S j) := by
  obtain ⟨h1, h2, h3⟩ := at_ok h
  refine ⟨?_, h2, hn⟩
  by_cases e : j + 1 = n
  · exact .inl (h3 e)
  · exact .inr (by omega)
/-- a program that is in order -/
structure ProgOk (S : Nat → Step) (n : Nat) : Prop where
  step : ∀ j, j < n → StepOk n j (S j)
  wrong : ∀ j, j < n → (S j).wrong = 0
  off : ∀ j, j < n → In64 (S j).off
theorem call_num {c d s : Int} {r : Bool} {o n : Int} (h : ¬ bad c d s r o n) (hc : c = 27) : 1 ≤ n ∧ n ≤ 3 := by
  unfold bad at h; omega
end Go.Proofs.YtfpoicdfkjbknaaDoor.P
