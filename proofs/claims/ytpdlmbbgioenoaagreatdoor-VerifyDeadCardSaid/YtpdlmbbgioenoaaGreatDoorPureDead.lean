/- What stands where nobody comes makes no difference: plain laws on the walker's run, for VerifyDead. Conditions: the program's check gives nothing, its numbers are int64's. -/
import Derived.Test.YtpdlmbbgioenoaaGreatDoorOneVer
namespace Go.Proofs.YtpdlmbbgioenoaaGreatDoor.P
open Go.RowKit (wrap64)
set_option linter.unusedSimpArgs false
set_option linter.unusedVariables false

/-- alike, but that the first may miss register 0 (if D) -/
def Near (D : Prop) (s s' : VS) : Prop := (∀ r, r ≠ 0 → s'.regs r = s.regs r) ∧ s'.slots = s.slots ∧ (s'.regs 0 = s.regs 0 ∨ (D ∧ (s.regs 0).kind = 0))
theorem Near.refl (D : Prop) (s : VS) : Near D s s := ⟨fun _ _ => rfl, rfl, .inl rfl⟩
theorem Near.reg {D : Prop} {s s' : VS} (h : Near D s s') (r : Nat) : s'.regs r = s.regs r ∨ (D ∧ (s.regs r).kind = 0) := by
  by_cases e : r = 0
  · subst e; exact h.2.2
  · exact .inl (h.1 r e)
theorem Near.second {D : Prop} {s s' : VS} (h : Near D s s') (t : Step) : s'.second t = s.second t ∨ (D ∧ (s.second t).kind = 0) := by
  unfold VS.second
  split
  · exact h.reg _
  · exact .inl rfl
theorem Near.operand {D : Prop} {s s' : VS} (h : Near D s s') (t : Step) : s'.operand t = s.operand t ∨ (D ∧ (s.operand t).kind = 0) := by
  unfold VS.operand
  split
  · exact .inl rfl
  · exact h.second t
theorem Near.upd {D : Prop} {s s' : VS} (h : Near D s s') (i : Nat) (v : Wh) : Near D { s with regs := P.upd s.regs i v } { s' with regs := P.upd s'.regs i v } := by
  refine ⟨fun r hr => ?_, h.2.1, ?_⟩
  · by_cases e : r = i
    · subst e; show P.upd s'.regs r v r = P.upd s.regs r v r; rw [upd_same, upd_same]
    · show P.upd s'.regs i v r = P.upd s.regs i v r; rw [upd_other e, upd_other e]; exact h.1 r hr
  · by_cases e : 0 = i
    · left; show P.upd s'.regs i v 0 = P.upd s.regs i v 0; rw [← e, upd_same, upd_same]
    · rcases h.2.2 with k | k
      · left; show P.upd s'.regs i v 0 = P.upd s.regs i v 0; rw [upd_other e, upd_other e]; exact k
      · right; refine ⟨k.1, ?_⟩; show (P.upd s.regs i v 0).kind = 0; rw [upd_other e]; exact k.2
theorem Near.slots {D : Prop} {s s' : VS} (h : Near D s s') (sl : Nat → Wh) : Near D { s with slots := sl } { s' with slots := sl } := ⟨h.1, rfl, h.2.2⟩
theorem Near.setReg {D : Prop} {s s' : VS} (h : Near D s s') (r : Int) (v : Wh) : Near D (s.setReg r v) (s'.setReg r v) := h.upd _ v
/-- two ways, one p further on -/
inductive NearO (D : Prop) (p : Int) : Option (VS × Int) → Option (VS × Int) → Prop
  | none : NearO D p none none
  | some {s s' : VS} {pc pc' : Int} (h : Near D s s') (e : pc' = pc + p) : NearO D p (some (s, pc)) (some (s', pc'))
inductive NearR (D : Prop) (p : Int) : VRes → VRes → Prop
  | done (b : B) : NearR D p (.done b) (.done b)
  | err (e : Int) : NearR D p (.err e) (.err e)
  | go {x y x' y' : Option (VS × Int)} (h : NearO D p x x') (k : NearO D p y y') : NearR D p (.go x y) (.go x' y')
theorem narrowed_near {D : Prop} {s s' : VS} (h : Near D s s') (t : Step) (x y : B) (e1 : s'.regs t.dst.toNat = s.regs t.dst.toNat) (e2 : t.reg = true → s'.regs t.src.toNat = s.regs t.src.toNat) : Near D (s.narrowed t x y) (s'.narrowed t x y) := by
  unfold VS.narrowed
  by_cases hr : t.reg = true
  · rw [if_pos hr, if_pos hr]
    by_cases hd : t.src = t.dst
    · rw [if_pos hd, if_pos hd]; exact h
    · rw [if_neg hd, if_neg hd, e1, e2 hr]
      exact (h.upd _ _).upd _ _
  · rw [if_neg hr, if_neg hr, e1]
    exact h.upd _ _
theorem way_near {D : Prop} {s s' : VS} (h : Near D s s') (t : Step) (c nx nx' p : Int) (e1 : s'.regs t.dst.toNat = s.regs t.dst.toNat) (e2 : s'.second t = s.second t) (e3 : t.reg = true → s'.regs t.src.toNat = s.regs t.src.toNat) (en : nx' = nx + p) : NearO D p (s.way t c nx) (s'.way t c nx') := by
  unfold VS.way
  rw [e1, e2]
  split
  · exact .some (narrowed_near h t _ _ e1 e3) en
  · exact .none
theorem asks_near {D : Prop} {s s' : VS} (h : Near D s s') (t : Step) (pc p : Int) : (D ∧ ∃ e, s.asks t pc = .err e) ∨ NearR D p (s.asks t pc) (s'.asks t (pc + p)) := by
  rcases h.reg t.dst.toNat with e1 | ⟨d, k⟩
  · rcases h.second t with e2 | ⟨d, k⟩
    · right
      have e3 : t.reg = true → s'.regs t.src.toNat = s.regs t.src.toNat := fun hr => by unfold VS.second at e2; rwa [if_pos hr, if_pos hr] at e2
      unfold VS.asks
      rw [e1, e2]
      split
      · exact .err _
      split
      · exact .go (way_near h t _ _ _ _ e1 e2 e3 (by omega)) (way_near h t _ _ _ _ e1 e2 e3 (by omega))
      split
      · exact .err _
      · simp only
        split
        · exact .go (.some (h.setReg _ _) (by split <;> omega)) (.some (h.setReg _ _) (by split <;> omega))
        · exact .go (.some h (by split <;> omega)) .none
    · left; refine ⟨d, 8, ?_⟩; unfold VS.asks; rw [if_pos (.inr k)]
  · left; refine ⟨d, 8, ?_⟩; unfold VS.asks; rw [if_pos (.inl k)]
theorem load_near {D : Prop} {s s' : VS} (h : Near D s s') (w : Wh) (o : Int) : s'.load w o = s.load w o := by unfold VS.load; rw [h.2.1]
theorem vfar_none {w : Wh} (h : w.kind = 0) (o : Int) : vfar w o = (bnil, 8) := by unfold vfar; rw [if_pos h]
theorem store_near {D : Prop} {s s' : VS} (h : Near D s s') (w : Wh) (o : Int) (x : Wh) : (s'.store w o x).2 = (s.store w o x).2 ∧ Near D (s.store w o x).1 (s'.store w o x).1 := by
  unfold VS.store
  rw [h.2.1]
  repeat' split
  all_goals first | exact ⟨rfl, h⟩ | exact ⟨rfl, h.slots _⟩
theorem store_none {s : VS} (w : Wh) (o : Int) {x : Wh} (h : x.kind = 0) : (s.store w o x).2 ≠ 0 := by
  unfold VS.store
  split
  · assumption
  split
  · simp
  first | (rw [if_pos h]; simp) | simp
theorem call_near {D : Prop} {s s' : VS} (h : Near D s s') (n : Int) : (s'.call n).2 = (s.call n).2 ∧ Near D (s.call n).1 (s'.call n).1 := by
  unfold VS.call
  rw [h.1 1 (by decide)]
  split
  · exact ⟨rfl, h⟩
  split
  · exact ⟨rfl, h⟩
  refine ⟨rfl, fun r hr => ?_, h.2.1, .inl rfl⟩
  simp only
  rw [if_neg hr, if_neg hr]
  split
  · rfl
  · exact h.1 r hr
theorem counts_none {c : Int} {a b : Wh} (h : b.kind = 0 ∨ (a.kind = 0 ∧ c ≠ 1)) : (wcounts c a b).2 ≠ 0 := by
  unfold wcounts; rw [if_pos h]; simp
theorem counts_mov {a b : Wh} (h : b.kind ≠ 0) : wcounts 1 a b = (b, 0) := by
  unfold wcounts; rw [if_neg (by omega), if_pos rfl]
theorem step_near {D : Prop} {s s' : VS} (h : Near D s s') (t : Step) (pc p : Int) : (D ∧ ∃ e, s.step t pc = .err e) ∨ NearR D p (s.step t pc) (s'.step t (pc + p)) := by
  unfold VS.step
  by_cases h28 : t.code = 28
  · simp only [if_pos h28]
    rcases h.2.2 with e | ⟨d, k⟩
    · right; rw [e]; repeat' split
      all_goals first | exact .done _ | exact .err _
    · left; refine ⟨d, 8, ?_⟩; rw [if_neg (by omega), if_pos k]
  simp only [if_neg h28]
  by_cases h14 : t.code = 14
  · simp only [if_pos h14]; right; exact .go (.some h (by omega)) .none
  simp only [if_neg h14]
  by_cases ha : 15 ≤ t.code ∧ t.code ≤ 24
  · simp only [if_pos ha]; exact asks_near h t pc p
  simp only [if_neg ha]
  by_cases h25 : t.code = 25
  · simp only [if_pos h25]
    rcases h.reg t.src.toNat with e | ⟨d, k⟩
    · right; rw [e, load_near h]; split
      · exact .err _
      · exact .go (.some (h.setReg _ _) (by omega)) .none
    · left; refine ⟨d, 8, ?_⟩
      have : s.load (s.regs t.src.toNat) t.off = (.nil, 8) := by unfold VS.load; rw [vfar_none k]; simp
      rw [this]; simp
  simp only [if_neg h25]
  by_cases h26 : t.code = 26
  · simp only [if_pos h26]
    rcases h.reg t.dst.toNat with e | ⟨d, k⟩
    · rcases h.second t with e2 | ⟨d, k⟩
      · right; rw [e, e2]
        obtain ⟨q1, q2⟩ := store_near h (s.regs t.dst.toNat) t.off (s.second t)
        rw [q1]; split
        · exact .err _
        · exact .go (.some q2 (by omega)) .none
      · left; exact ⟨d, _, if_pos (store_none _ _ k)⟩
    · left; refine ⟨d, 8, ?_⟩
      have : s.store (s.regs t.dst.toNat) t.off (s.second t) = (s, 8) := by unfold VS.store; rw [vfar_none k]; simp
      rw [this]; simp
  simp only [if_neg h26]
  by_cases h27 : t.code = 27
  · simp only [if_pos h27]
    obtain ⟨q1, q2⟩ := call_near h t.num
    right; rw [q1]; split
    · exact .err _
    · exact .go (.some q2 (by omega)) .none
  simp only [if_neg h27]
  rcases h.operand t with e2 | ⟨d, k⟩
  · have key : wcounts t.code (s'.regs t.dst.toNat) (s.operand t) = wcounts t.code (s.regs t.dst.toNat) (s.operand t) ∨ (D ∧ (wcounts t.code (s.regs t.dst.toNat) (s.operand t)).2 ≠ 0) := by
      rcases h.reg t.dst.toNat with e | ⟨d, k⟩
      · left; rw [e]
      · by_cases hb : (s.operand t).kind = 0
        · right; exact ⟨d, counts_none (.inl hb)⟩
        by_cases hc : t.code = 1
        · left; rw [hc, counts_mov hb, counts_mov hb]
        · right; exact ⟨d, counts_none (.inr ⟨k, hc⟩)⟩
    rcases key with e | ⟨d, k⟩
    · right; rw [e2, e]; split
      · exact .err _
      · exact .go (.some (h.setReg _ _) (by omega)) .none
    · left; exact ⟨d, _, if_pos k⟩
  · left; exact ⟨d, _, if_pos (counts_none (.inl k))⟩

/-- what comes of both walks: alike, or one looked too often, or (if D) the first goes wrong -/
def Alike (D : Prop) (d : Int) (r r' : VR) : Prop := r'.1.1 = 4 ∨ r.1.1 = 4 ∨ (D ∧ r.1.1 ≠ 0) ∨ (r'.1.1 = r.1.1 ∧ r'.2.ends = r.2.ends ∧ r'.2.looks = r.2.looks + d)
theorem alike_then {D : Prop} {d : Int} {r r' : VR} {f f' : Wk → VR} (h : Alike D d r r') (hf : ∀ w w', w'.looks = w.looks + d → w'.ends = w.ends → Alike D d (f w) (f' w')) : Alike D d (thenOf r f) (thenOf r' f') := by
  unfold thenOf
  rcases h with h | h | ⟨h1, h2⟩ | ⟨h1, h2, h3⟩
  · left; rw [if_pos (by omega)]; exact h
  · right; left; rw [if_pos (by omega)]; exact h
  · right; right; left; rw [if_pos h2]; exact ⟨h1, h2⟩
  · by_cases h0 : r.1.1 = 0
    · rw [if_neg (by omega), if_neg (by omega)]; exact hf _ _ h3 h2
    · rw [if_pos (by omega), if_pos (by omega)]; exact .inr (.inr (.inr ⟨h1, h2, h3⟩))
theorem vwalk_near {S S' : Nat → Step} {n p : Nat} {D : Prop} {d : Int} (hd : 0 ≤ d) (hS : ∀ j, j < n → StepOk n j (S j)) (hS' : ∀ j, j < n → S' (j + p) = S j) : ∀ (k k' : Nat) (s s' : VS) (pc : Int) (w w' : Wk), VSOk s → Near D s s' → 0 ≤ pc → pc < n → n ≤ pc + k → n ≤ pc + k' → w'.looks = w.looks + d → w'.ends = w.ends → Alike D d (vwalk S k s pc w) (vwalk S' k' s' (pc + p) w')
  | 0, _, _, _, pc, _, _, _, _, h0, h1, h2, _, _, _ => by omega
  | _ + 1, 0, _, _, pc, _, _, _, _, h0, h1, _, h2, _, _ => by omega
  | k + 1, k' + 1, s, s', pc, w, w', hs, hn, h0, h1, h2, h3, hl, he => by
    rw [vwalk_succ, vwalk_succ]
    by_cases l1 : 4000 < w'.looks + 1
    · left; rw [if_pos l1]
    have l2 : ¬ 4000 < w.looks + 1 := by omega
    rw [if_neg l1, if_neg l2]
    have et : S' (pc + p).toNat = S pc.toNat := by
      rw [show (pc + p).toNat = pc.toNat + p by omega]; exact hS' _ (by omega)
    rw [et]
    have ht : StepOk n pc (S pc.toNat) := by have := hS pc.toNat (by omega); rwa [Int.toNat_of_nonneg h0] at this
    rcases step_near hn (S pc.toNat) pc p with ⟨hD, e, hr⟩ | hr
    · right; right; left
      rw [hr]
      exact ⟨hD, step_err hr⟩
    · generalize hx : s.step (S pc.toNat) pc = X at hr
      generalize s'.step (S pc.toNat) (pc + p) = X' at hr
      cases hr with
      | done b => exact .inr (.inr (.inr ⟨rfl, by show w'.ends ++ [b] = w.ends ++ [b]; rw [he], by show w'.looks + 1 = w.looks + 1 + d; omega⟩))
      | err e => exact .inr (.inr (.inr ⟨rfl, he, by show w'.looks + 1 = w.looks + 1 + d; omega⟩))
      | go a b =>
        obtain ⟨hx1, hy1, -⟩ := step_ways hs ht hx
        refine alike_then ?_ ?_
        · cases a with
          | none => exact .inr (.inr (.inr ⟨rfl, he, by show w'.looks + 1 = w.looks + 1 + d; omega⟩))
          | some hh e =>
            subst e
            obtain ⟨q1, q2, q3⟩ := hx1 _ rfl
            exact vwalk_near hd hS hS' k k' _ _ _ _ _ q1 hh (by simp only at q2; omega) q3 (by simp only at q2; omega) (by simp only at q2; omega) (by show w'.looks + 1 = w.looks + 1 + d; omega) he
        · intro v v' hv1 hv2
          cases b with
          | none => exact .inr (.inr (.inr ⟨rfl, hv2, hv1⟩))
          | some hh e =>
            subst e
            obtain ⟨q1, q2, q3⟩ := hy1 _ rfl
            exact vwalk_near hd hS hS' k k' _ _ _ _ _ q1 hh (by simp only at q2; omega) q3 (by simp only at q2; omega) (by simp only at q2; omega) hv1 hv2
/-- a walk from a way on, whose steps stand p further on -/
theorem alike_from {S S' : Nat → Step} {n p : Nat} {D : Prop} {d : Int} {s s' : VS} (hd : 0 ≤ d) (hS : ∀ j, j < n → StepOk n j (S j)) (hS' : ∀ j, j < n → S' (j + p) = S j) (hn : 0 < n) (k' : Nat) (hk : n ≤ k') (hs : VSOk s) (h : Near D s s') : Alike D d (vwalk S n s 0 ⟨0, []⟩) (vwalk S' k' s' p ⟨d, []⟩) := by
  have := vwalk_near (D := D) hd hS hS' n k' s s' 0 ⟨0, []⟩ ⟨d, []⟩ hs h (by omega) (by omega) (by omega) (by omega) (by show d = 0 + d; omega) rfl
  rwa [Int.zero_add] at this
/-- the program behind a jump over k steps, and behind two that make and lose a number -/
def jumped (S : Nat → Step) (K : List Step) : Nat → Step := fun i => if i = 0 then ⟨14, 0, 0, false, K.length, 0⟩ else if i < K.length + 1 then K.getD (i - 1) ⟨0, 0, 0, false, 0, 0⟩ else S (i - (K.length + 1))
def lost (S : Nat → Step) (m : Int) : Nat → Step := fun i => if i = 0 then ⟨1, 0, 0, false, 0, m⟩ else if i = 1 then ⟨1, 0, 1, true, 0, 0⟩ else S (i - 2)
theorem jumped_at (S : Nat → Step) (K : List Step) (j : Nat) : jumped S K (j + (K.length + 1)) = S j := by
  unfold jumped; rw [if_neg (by omega), if_neg (by omega)]; congr 1; omega
theorem lost_at (S : Nat → Step) (m : Int) (j : Nat) : lost S m (j + 2) = S j := by
  unfold lost; rw [if_neg (by omega), if_neg (by omega)]; congr 1
/-- a step that leads nowhere else -/
def Skips (t : Step) : Prop := t.wrong = 0 ∧ (t.leads → t.off = 0)
theorem from_all {S : Nat → Step} {n : Nat} (h : ∀ j, j < n → at_ S n j = 0) : ∀ k i, i + k = n → from_ S n i k = (0, -1)
  | 0, i, _ => rfl
  | k + 1, i, e => by
    show (if at_ S n i ≠ 0 then (at_ S n i, (i : Int)) else from_ S n (i + 1) k) = _
    rw [if_neg (by rw [h i (by omega)]; simp)]
    exact from_all h k (i + 1) (by omega)
theorem check_all {S : Nat → Step} {n : Nat} (h1 : 1 ≤ n) (h2 : n ≤ 200) (h : ∀ j, j < n → at_ S n j = 0) : check S n = (0, -1) := by
  unfold check; rw [if_neg (by omega)]; exact from_all h n 0 (by omega)
theorem at_all {S : Nat → Step} {n : Nat} (h : (check S n).1 = 0) : (1 ≤ n ∧ n ≤ 200) ∧ ∀ j, j < n → at_ S n j = 0 := by
  have hn : ¬ (n < 1 ∨ 200 < n) := fun hx => by unfold check at h; rw [if_pos hx] at h; cases h
  unfold check at h; rw [if_neg hn] at h
  exact ⟨by omega, fun j hj => from_ok n 0 (by omega) h j (by omega) hj⟩
theorem at_zero {S : Nat → Step} {n i : Nat} (h1 : (S i).wrong = 0) (h2 : (S i).leads → 0 ≤ (S i).off ∧ (S i).off < (n : Int) - 1 - i) (h3 : i + 1 = n → (S i).code = 28) : at_ S n i = 0 := by
  unfold at_
  rw [if_neg (by simp [h1]), if_neg (by rintro ⟨a, b⟩; have := h2 a; omega), if_neg (by rintro ⟨a, b⟩; exact b (h3 a))]
theorem jumped_check {S : Nat → Step} {n : Nat} {K : List Step} (h : (check S n).1 = 0) (hK : ∀ t ∈ K, Skips t) (hl : n + K.length + 1 ≤ 200) : check (jumped S K) (K.length + 1 + n) = (0, -1) := by
  obtain ⟨hn, ha⟩ := at_all h
  refine check_all (by omega) (by omega) fun j hj => ?_
  by_cases h0 : j = 0
  · subst h0
    refine at_zero (by show Step.wrong ⟨14, 0, 0, false, K.length, 0⟩ = 0; unfold Step.wrong P.wrong bad two; simp) (fun _ => ?_) (by omega)
    show 0 ≤ (K.length : Int) ∧ (K.length : Int) < _
    omega
  by_cases h1 : j < K.length + 1
  · have e : jumped S K j = K[j - 1]'(by omega) := by
      unfold jumped; rw [if_neg h0, if_pos h1, List.getD_eq_getElem?_getD, List.getElem?_eq_getElem (by omega)]; rfl
    obtain ⟨q1, q2⟩ := hK (K[j - 1]'(by omega)) (List.getElem_mem _)
    refine at_zero (by rw [e]; exact q1) (fun hx => ?_) (by omega)
    rw [e] at hx ⊢
    have := q2 hx
    omega
  · obtain ⟨i, rfl⟩ : ∃ i, j = i + (K.length + 1) := ⟨j - (K.length + 1), by omega⟩
    have := at_ok (ha i (by omega))
    refine at_zero (by rw [jumped_at]; exact this.1) (fun hx => ?_) (fun hx => ?_)
    · rw [jumped_at] at hx ⊢
      have := this.2.1 hx
      omega
    · rw [jumped_at]; exact this.2.2 (by omega)
theorem lost_check {S : Nat → Step} {n : Nat} {m : Int} (h : (check S n).1 = 0) (hl : n + 2 ≤ 200) : check (lost S m) (2 + n) = (0, -1) := by
  obtain ⟨hn, ha⟩ := at_all h
  refine check_all (by omega) (by omega) fun j hj => ?_
  by_cases h0 : j = 0
  · subst h0
    exact at_zero (by show Step.wrong ⟨1, 0, 0, false, 0, m⟩ = 0; unfold Step.wrong P.wrong bad two; simp) (fun hx => by change (1 : Int) = 14 ∨ (15 ≤ (1 : Int) ∧ (1 : Int) ≤ 24) at hx; omega) (by omega)
  by_cases h1 : j = 1
  · subst h1
    exact at_zero (by show Step.wrong ⟨1, 0, 1, true, 0, 0⟩ = 0; unfold Step.wrong P.wrong bad two; simp) (fun hx => by change (1 : Int) = 14 ∨ (15 ≤ (1 : Int) ∧ (1 : Int) ≤ 24) at hx; omega) (by omega)
  · obtain ⟨i, rfl⟩ : ∃ i, j = i + 2 := ⟨j - 2, by omega⟩
    have := at_ok (ha i (by omega))
    refine at_zero (by rw [lost_at]; exact this.1) (fun hx => ?_) (fun hx => ?_)
    · rw [lost_at] at hx ⊢
      have := this.2.1 hx
      omega
    · rw [lost_at]; exact this.2.2 (by omega)
theorem vrun_jumped {S : Nat → Step} {n : Nat} {K : List Step} (hS : ∀ j, j < K.length + 1 + n → StepOk (K.length + 1 + n) j (jumped S K j)) (hn : 0 < n) : vrun (jumped S K) (K.length + 1 + n) = vwalk (jumped S K) (K.length + n) VS.init ((K.length + 1 : Nat) : Int) ⟨1, []⟩ := by
  unfold vrun
  rw [show K.length + 1 + n = (K.length + n) + 1 by omega, vwalk_succ, if_neg (by show ¬ 4000 < (0 : Int) + 1; omega)]
  have e : VS.init.step (jumped S K (0 : Int).toNat) 0 = .go (some (VS.init, ((K.length + 1 : Nat) : Int))) none := by
    show VS.step VS.init ⟨14, 0, 0, false, K.length, 0⟩ 0 = _
    unfold VS.step
    simp only
    rw [if_neg (by decide), if_pos trivial, show (0 : Int) + 1 + (K.length : Int) = ((K.length + 1 : Nat) : Int) by omega]
  rw [e]
  refine ways_one fun h0 => ?_
  exact (vwalk_keeps hS (K.length + n) VS.init ((K.length + 1 : Nat) : Int) ⟨1, []⟩ VSOk.init (by omega) (by omega) (by omega)).place h0
def lostVS (_m : Int) : VS := { VS.init with regs := P.upd (P.upd VS.init.regs 0 (.num (bone _m))) 0 ⟨2, bone 0⟩ }
theorem upd_upd {α : Type} (f : Nat → α) (i : Nat) (a b : α) : P.upd (P.upd f i a) i b = P.upd f i b := by
  funext j
  by_cases e : j = i
  · subst e; rw [upd_same, upd_same]
  · rw [upd_other e, upd_other e, upd_other e]
theorem lost_near (m : Int) : Near True VS.init (lostVS m) := by
  unfold lostVS
  rw [upd_upd]
  refine ⟨fun r hr => ?_, rfl, .inr ⟨trivial, rfl⟩⟩
  show P.upd VS.init.regs 0 _ r = VS.init.regs r
  rw [upd_other hr]
theorem vrun_lost {S : Nat → Step} {n : Nat} {m : Int} (hm : In64 m) (hS : ∀ j, j < 2 + n → StepOk (2 + n) j (lost S m j)) (hn : 0 < n) : vrun (lost S m) (2 + n) = vwalk (lost S m) n (lostVS m) ((2 : Nat) : Int) ⟨2, []⟩ := by
  have h1 : VSOk ({ VS.init with regs := P.upd VS.init.regs 0 (.num (bone m)) } : VS) := VSOk.init.setReg' 0 (WOk.num (bone_ok hm))
  have h2 : VSOk (lostVS m) := h1.setReg' 0 ⟨by simp, bone_ok in64_zero⟩
  unfold vrun
  rw [show 2 + n = (n + 1) + 1 by omega, vwalk_succ, if_neg (by show ¬ 4000 < (0 : Int) + 1; omega)]
  have e : VS.init.step (lost S m (0 : Int).toNat) 0 = .go (some ({ VS.init with regs := P.upd VS.init.regs 0 (.num (bone m)) }, ((1 : Nat) : Int))) none := by
    show VS.step VS.init ⟨1, 0, 0, false, 0, m⟩ 0 = _
    rfl
  rw [e]
  have st := fun (k : Nat) s w (hs : VSOk s) (hk : 2 + n ≤ k + 1) (pc : Int) (h0 : 0 ≤ pc) (h1 : pc < 2 + n) (h2 : 2 + n ≤ pc + k) => (vwalk_keeps hS k s pc w hs h0 (by omega) (by omega)).place
  rw [ways_one (fun h0 => st (n + 1) _ _ h1 (by omega) ((1 : Nat) : Int) (by omega) (by omega) (by omega) h0)]
  rw [vwalk_succ, if_neg (by show ¬ 4000 < (0 : Int) + 1 + 1; omega)]
  have e2 : VS.step { VS.init with regs := P.upd VS.init.regs 0 (.num (bone m)) } (lost S m ((1 : Nat) : Int).toNat) ((1 : Nat) : Int) = .go (some (lostVS m, ((2 : Nat) : Int))) none := by
    show VS.step { VS.init with regs := P.upd VS.init.regs 0 (.num (bone m)) } ⟨1, 0, 1, true, 0, 0⟩ 1 = _
    rfl
  rw [e2]
  have k2 := vwalk_keeps hS n (lostVS m) ((2 : Nat) : Int) ⟨2, []⟩ h2 (by omega) (by omega) (by omega)
  exact ways_one (fun h0 => k2.place h0)
theorem verify_checked {S : Nat → Step} {n : Nat} (h : (check S n).1 = 0) : verify S n = (if (vrun S n).1.1 ≠ 0 then ((vrun S n).1, bnil) else ((0, -1), outOf (vrun S n).2.ends)) := by
  unfold verify
  exact if_neg (fun hx => hx h)
/-- the law -/
theorem dead_law {S : Nat → Step} {n : Nat} {K : List Step} {m : Int} (h : (check S n).1 = 0) (hin : ∀ j, j < n → In64 (S j).num) (hK : ∀ t ∈ K, Skips t ∧ In64 t.num) (hn : n ≤ 60) (hl : K.length ≤ 60) (hm : In64 m) :
    (verify S n).1.1 = 4 ∨ (verify (jumped S K) (K.length + 1 + n)).1.1 = 4 ∨ (verify (lost S m) (2 + n)).1.1 = 4 ∨
    ((verify (jumped S K) (K.length + 1 + n)).1.1 = (verify S n).1.1 ∧ (verify (jumped S K) (K.length + 1 + n)).2 = (verify S n).2 ∧ ((verify S n).1.1 ≠ 0 ∨ (verify (lost S m) (2 + n)).1.1 = 0)) := by
  obtain ⟨hn1, ha⟩ := at_all h
  have c1 := jumped_check (K := K) h (fun t ht => (hK t ht).1) (by omega)
  have c2 := lost_check (m := m) h (by omega)
  have o0 : ∀ j, j < n → StepOk n j (S j) := fun j hj => stepOk_of hj (ha j hj) (hin j hj)
  have o1 : ∀ j, j < K.length + 1 + n → StepOk (K.length + 1 + n) j (jumped S K j) := fun j hj => by
    refine stepOk_of hj ((at_all (by rw [c1])).2 j hj) ?_
    unfold jumped
    split
    · exact in64_zero
    split
    · rename_i h0 h1
      rw [List.getD_eq_getElem?_getD, List.getElem?_eq_getElem (show j - 1 < K.length by omega)]
      exact (hK _ (List.getElem_mem _)).2
    · exact hin _ (by omega)
  have o2 : ∀ j, j < 2 + n → StepOk (2 + n) j (lost S m j) := fun j hj => by
    refine stepOk_of hj ((at_all (by rw [c2])).2 j hj) ?_
    unfold lost
    split
    · exact hm
    split
    · exact in64_zero
    · exact hin _ (by omega)
  have A1 : Alike False 1 (vrun S n) (vrun (jumped S K) (K.length + 1 + n)) := by
    rw [vrun_jumped o1 (by omega)]
    exact alike_from (by omega) o0 (fun j _ => jumped_at S K j) (by omega) _ (by omega) VSOk.init (Near.refl _ _)
  have A2 : Alike True 2 (vrun S n) (vrun (lost S m) (2 + n)) := by
    rw [vrun_lost hm o2 (by omega)]
    exact alike_from (by omega) o0 (fun j _ => lost_at S m j) (by omega) _ (by omega) VSOk.init (lost_near m)
  rw [verify_checked h, verify_checked (show (check (jumped S K) (K.length + 1 + n)).1 = 0 by rw [c1]), verify_checked (show (check (lost S m) (2 + n)).1 = 0 by rw [c2])]
  generalize vrun S n = r at A1 A2 ⊢
  generalize vrun (jumped S K) (K.length + 1 + n) = r1 at A1 ⊢
  generalize vrun (lost S m) (2 + n) = r2 at A2 ⊢
  have f : ∀ r : VR, (if r.1.1 ≠ 0 then (r.1, bnil) else ((0, -1), outOf r.2.ends)).1.1 = r.1.1 := fun r => by
    by_cases h0 : r.1.1 = 0
    · rw [if_neg (by simp [h0]), h0]
    · rw [if_pos h0]
  rw [f, f, f]
  rcases A1 with e | e | ⟨e, -⟩ | ⟨e1, e2, -⟩
  · exact .inr (.inl e)
  · exact .inl e
  · exact e.elim
  have g : (if r1.1.1 ≠ 0 then (r1.1, bnil) else ((0, -1), outOf r1.2.ends)).2 = (if r.1.1 ≠ 0 then (r.1, bnil) else ((0, -1), outOf r.2.ends)).2 := by
    by_cases h0 : r.1.1 = 0
    · rw [if_neg (by rw [e1, h0]; simp), if_neg (by simp [h0]), e2]
    · rw [if_pos h0, if_pos (by rw [e1]; exact h0)]
  rw [g]
  rcases A2 with e | e | ⟨-, e⟩ | ⟨e3, -, -⟩
  · exact .inr (.inr (.inl e))
  · exact .inl e
  · exact .inr (.inr (.inr ⟨e1, rfl, .inl e⟩))
  · by_cases h0 : r.1.1 = 0
    · exact .inr (.inr (.inr ⟨e1, rfl, .inr (by rw [e3, h0])⟩))
    · exact .inr (.inr (.inr ⟨e1, rfl, .inl h0⟩))
end Go.Proofs.YtpdlmbbgioenoaaGreatDoor.P
