/- What is known stays in order, ways lead on: plain laws on what verify.Verify computes. Conditions: the bounds have their ends in order. -/
import Derived.Test.YtfpoicdfkjbknaaDoorPureVer
namespace Go.Proofs.YtfpoicdfkjbknaaDoor.P
open Go.RowKit (wrap64)
set_option linter.unusedSimpArgs false
set_option linter.unusedVariables false

theorem div_in {a b : Int} (ha : In64 a) (h0 : 0 ≤ a) (hb : 0 < b) : In64 (a / b) := by
  have h1 := Int.ediv_nonneg h0 (Int.le_of_lt hb)
  have h2 := Int.ediv_le_self b h0
  unfold In64 at *; omega
theorem min_in {a b : Int} (ha : In64 a) (hb : In64 b) : In64 (min a b) := by unfold In64 at *; omega
theorem max_in {a b : Int} (ha : In64 a) (hb : In64 b) : In64 (max a b) := by unfold In64 at *; omega
theorem bjoin_in {a b : B} (ha : a.In) (hb : b.In) : (bjoin a b).In := ⟨min_in ha.1 hb.1, max_in ha.2 hb.2⟩
theorem bone_in {n : Int} (h : In64 n) : (bone n).In := ⟨h, h⟩
theorem small_of {n : Int} (h : small n = true) : -2147483648 ≤ n ∧ n ≤ 2147483648 := by unfold small at h; simpa using h
theorem btimes_in (a b : B) : (btimes a b).In := by
  unfold btimes
  split
  · rename_i h
    simp only [Bool.and_eq_true] at h
    obtain ⟨⟨⟨h1, h2⟩, h3⟩, h4⟩ := h
    have h1 := small_of h1; have h2 := small_of h2; have h3 := small_of h3; have h4 := small_of h4
    exact bjoin_in (bjoin_in (bjoin_in (bone_in (small_prod h1.1 h1.2 h3.1 h3.2)) (bone_in (small_prod h1.1 h1.2 h4.1 h4.2))) (bone_in (small_prod h2.1 h2.2 h3.1 h3.2))) (bone_in (small_prod h2.1 h2.2 h4.1 h4.2))
  · exact ball_in
theorem bdoes_in {c : Int} {a b : B} (ha : a.Ok) (hb : b.Ok) : (bdoes c a b).In := by
  unfold bdoes
  split
  · exact hb.in
  split
  · rw [badd_eq ha.in hb.in]; split
    · assumption
    · exact ball_in
  split
  · rw [bsub_eq ha.in hb.in]; split
    · assumption
    · exact ball_in
  split
  · exact btimes_in a b
  split
  · unfold bdiv
    split
    · exact ball_in
    split
    · exact ⟨in64_zero, ha.2.1⟩
    have := ha.2.2; have := hb.2.2
    split
    · exact ⟨div_in ha.1 (by omega) (by omega), div_in ha.2.1 (by omega) (by omega)⟩
    · refine ⟨in64_zero, min_in ha.2.1 ?_⟩
      have := hb.2.1; unfold In64 at *; omega
  split
  · unfold bbit
    split
    · exact ⟨in64_zero, min_in ha.2.1 hb.2.1⟩
    split
    · exact ⟨in64_zero, ha.2.1⟩
    split
    · exact ⟨in64_zero, hb.2.1⟩
    split
    · exact ball_in
    split
    · exact ⟨max_in ha.1 hb.1, fill_in (max_in ha.2.1 hb.2.1)⟩
    · exact ⟨in64_zero, fill_in (max_in ha.2.1 hb.2.1)⟩
  split
  · split
    · exact ball_in
    · unfold bleft; split
      · exact ball_in
      · exact ⟨in64_wrap _, in64_wrap _⟩
  split
  · unfold bright
    split
    · split
      · exact ⟨in64_zero, ha.2.1⟩
      · exact ball_in
    split
    · exact ha.in
    split
    · exact ⟨in64_shr ha.1 _, in64_shr ha.2.1 _⟩
    · exact ⟨in64_zero, in64_shr (by unfold In64; omega) _⟩
  split
  · unfold bsigned
    split
    · exact ⟨in64_shr ha.1 _, in64_shr ha.2.1 _⟩
    split
    · exact ⟨in64_zero, ha.2.1⟩
    split
    · exact ⟨ha.1, by unfold In64; simp⟩
    · exact ha.in
  split
  · split
    · exact ball_in
    · rename_i h
      obtain ⟨h1, h2, h3⟩ := ha
      refine ⟨?_, ?_⟩ <;> unfold In64 at * <;> simp only <;> omega
  · exact ball_in
theorem bdoes_ok {c : Int} {a b : B} (ha : a.Ok) (hb : b.Ok) : (bdoes c a b).Ok := by
  have h := bdoes_sound (c := c) ha hb ⟨Int.le_refl a.lo, ha.2.2⟩ ⟨Int.le_refl b.lo, hb.2.2⟩
  have hi := bdoes_in (c := c) ha hb
  exact ⟨hi.1, hi.2, Int.le_trans h.1 h.2⟩
theorem bnarrow_ok {c : Int} {a b : B} (ha : a.Ok) (hb : b.Ok) (h : (bnarrow c a b).2.2 = true) : (bnarrow c a b).1.Ok ∧ (bnarrow c a b).2.1.Ok :=
  ⟨(bnarrow_le ha hb h).1.ok ha, (bnarrow_le ha hb h).2.ok hb⟩
theorem bjoin_self {a : B} : bjoin a a = a := by unfold bjoin; rw [Int.min_self, Int.max_self]

theorem vfar_ok {w : Wh} (h : WOk w) {o : Int} (ho : In64 o) : (vfar w o).1.Ok := by
  unfold vfar
  repeat' split
  all_goals first | exact bnil_ok | exact bdoes_ok h.2 (bone_ok ho)
theorem vfar_kind {w : Wh} {o : Int} (hk : WOk w) (h : (vfar w o).2 = 0) : w.kind = 2 ∨ w.kind = 3 ∨ w.kind = 4 := by
  unfold vfar at h
  have := hk.1
  split at h
  · simp at h
  split at h
  · simp at h
  · omega
theorem vfar_at {w : Wh} {o : Int} (hk : WOk w) (h : (vfar w o).2 = 0) : (vfar w o).1 = bdoes 2 w.b (bone o) ∧ low w.kind ≤ (vfar w o).1.lo ∧ (vfar w o).1.hi ≤ high w.kind := by
  have h1 := vfar_kind hk h
  unfold vfar at *
  rw [if_neg (by omega), if_neg (by omega)] at *
  split at h
  · simp at h
  · rename_i h2
    rw [if_neg h2]
    refine ⟨rfl, ?_, ?_⟩ <;> simp only <;> omega
theorem vany_ok {sl : Nat → Wh} (h : ∀ r, WOk (sl r)) : ∀ (n k : Nat) (acc : B), acc.Ok → WOk (vany sl n k acc).1
  | 0, _, acc, ha => WOk.num ha
  | n + 1, k, acc, ha => by
    unfold vany
    split
    · exact WOk.nil
    split
    · exact WOk.nil
    · exact vany_ok h n (k + 1) _ (bjoin_ok ha (h k).2)
theorem VSOk.load {s : VS} (h : VSOk s) {w : Wh} (hw : WOk w) (o : Int) : WOk (s.load w o).1 := by
  unfold VS.load
  split
  · exact WOk.nil
  split
  · exact WOk.num ball_ok
  split
  · split
    · exact WOk.nil
    · exact h.2 _
  · exact vany_ok h.2 _ _ _ (h.2 _).2
theorem VSOk.store {s : VS} (h : VSOk s) (w : Wh) (o : Int) {x : Wh} (hx : WOk x) : VSOk (s.store w o x).1 := by
  unfold VS.store
  repeat' split
  all_goals first | exact h | exact h.setSlot _ hx
theorem VSOk.second {s : VS} (h : VSOk s) {t : Step} (ht : In64 t.num) : WOk (s.second t) := by
  unfold VS.second
  split
  · exact h.1 _
  · exact WOk.num (bone_ok ht)
theorem VSOk.operand {s : VS} (h : VSOk s) {t : Step} (ht : In64 t.num) : WOk (s.operand t) := by
  unfold VS.operand
  split
  · exact WOk.num (bone_ok in64_zero)
  · exact h.second ht
theorem wshift_ok {c : Int} {a b : Wh} (ha : WOk a) (hb : WOk b) : WOk (wshift c a b).1 := by
  unfold wshift
  split
  · exact WOk.nil
  split
  · exact WOk.nil
  · exact ⟨ha.1, bdoes_ok ha.2 hb.2⟩
theorem wcounts_ok {c : Int} {a b : Wh} (ha : WOk a) (hb : WOk b) : WOk (wcounts c a b).1 := by
  unfold wcounts
  split
  · exact WOk.nil
  split
  · exact hb
  split
  · exact WOk.num (bdoes_ok ha.2 hb.2)
  split
  · exact wshift_ok hb ha
  · exact wshift_ok ha hb
theorem VSOk.call {s : VS} (h : VSOk s) (n : Int) : VSOk (s.call n).1 := by
  unfold VS.call
  split
  · exact h
  split
  · exact h
  refine ⟨fun r => ?_, h.2⟩
  simp only
  split
  · split
    · exact ⟨by simp, bone_ok in64_zero⟩
    split
    · exact WOk.num (bone_ok in64_zero)
    · exact WOk.num ball_ok
  split
  · exact WOk.nil
  · exact h.1 r
theorem VSOk.narrowed {s : VS} (h : VSOk s) (t : Step) {x y : B} (hx : x.Ok) (hy : y.Ok) : VSOk (s.narrowed t x y) := by
  unfold VS.narrowed
  split
  · split
    · exact h
    · exact ⟨WOk.upd (WOk.upd h.1 _ (show WOk ⟨(s.regs t.src.toNat).kind, y⟩ from ⟨(h.1 _).1, hy⟩)) _ (show WOk ⟨(s.regs t.dst.toNat).kind, x⟩ from ⟨(h.1 _).1, hx⟩), h.2⟩
  · exact ⟨WOk.upd h.1 _ (show WOk ⟨(s.regs t.dst.toNat).kind, x⟩ from ⟨(h.1 _).1, hx⟩), h.2⟩
theorem VS.way_some {s : VS} {t : Step} {c nx : Int} {y : VS × Int} (h : s.way t c nx = some y) : (bnarrow c (s.regs t.dst.toNat).b (s.second t).b).2.2 = true ∧ y = (s.narrowed t (bnarrow c (s.regs t.dst.toNat).b (s.second t).b).1 (bnarrow c (s.regs t.dst.toNat).b (s.second t).b).2.1, nx) := by
  unfold VS.way at h
  split at h
  · rename_i h1; exact ⟨h1, (Option.some.inj h).symm⟩
  · simp at h
theorem VSOk.way {s : VS} (h : VSOk s) {t : Step} (ht : In64 t.num) {c nx : Int} {y : VS × Int} (hy : s.way t c nx = some y) : VSOk y.1 ∧ y.2 = nx := by
  obtain ⟨h1, rfl⟩ := VS.way_some hy
  have := bnarrow_ok (h.1 t.dst.toNat).2 (h.second ht).2 h1
  exact ⟨h.narrowed t this.1 this.2, rfl⟩
/-- one of the two ways is one -/
theorem VS.way_one {s : VS} (h : VSOk s) {t : Step} (ht : In64 t.num) (hc : P.asks t.code = true) (n m : Int) : s.way t (opp t.code) n ≠ none ∨ s.way t t.code m ≠ none := by
  have ha := (h.1 t.dst.toNat).2
  have hb := (h.second ht).2
  have x1 : (s.regs t.dst.toNat).b.Has (s.regs t.dst.toNat).b.lo := ⟨Int.le_refl _, ha.2.2⟩
  have x2 : (s.second t).b.Has (s.second t).b.lo := ⟨Int.le_refl _, hb.2.2⟩
  by_cases hi : P.is t.code (s.regs t.dst.toNat).b.lo (s.second t).b.lo = true
  · right
    unfold VS.way
    rw [if_pos (bnarrow_sound ha hb x1 x2 hi).1]
    simp
  · left
    unfold VS.way
    rw [if_pos (bnarrow_sound ha hb x1 x2 (by rw [opp_is hc]; simpa using hi)).1]
    simp
/-- what a step's ways are: in order, and they lead on -/
def LeadsOn (n : Nat) (pc : Int) (x : Option (VS × Int)) : Prop := ∀ y, x = some y → VSOk y.1 ∧ pc < y.2 ∧ y.2 < n
theorem LeadsOn.none {n : Nat} {pc : Int} : LeadsOn n pc none := fun y h => by simp at h
theorem LeadsOn.some {n : Nat} {pc nx : Int} {s : VS} (h : VSOk s) (h1 : pc < nx) (h2 : nx < n) : LeadsOn n pc (some (s, nx)) := fun y h => by
  obtain rfl := Option.some.inj h
  exact ⟨‹_›, h1, h2⟩
/-- what a step of a checked program has -/
def StepOk (n : Nat) (pc : Int) (t : Step) : Prop := (t.code = 28 ∨ pc + 1 < n) ∧ (t.leads → 0 ≤ t.off ∧ t.off < (n : Int) - 1 - pc) ∧ In64 t.num
theorem asks_ways {s : VS} (h : VSOk s) {t : Step} {n : Nat} {pc : Int} (ht : StepOk n pc t) (hc : 15 ≤ t.code ∧ t.code ≤ 24) {x y : Option (VS × Int)} (hs : s.asks t pc = .go x y) : LeadsOn n pc x ∧ LeadsOn n pc y ∧ (x ≠ none ∨ y ≠ none) := by
  obtain ⟨h1, h2, h3⟩ := ht
  have hl := h2 (.inr hc)
  have hn : pc + 1 < n := by omega
  have ho : pc + 1 + t.off < n := by omega
  unfold VS.asks at hs
  split at hs
  · cases hs
  split at hs
  · have hw := VS.way_one h h3 (by simp [P.asks, hc]) (pc + 1) (pc + 1 + t.off)
    injection hs with e1 e2
    subst e1; subst e2
    refine ⟨fun y hy => ?_, fun y hy => ?_, hw⟩
    · obtain ⟨a, b⟩ := h.way h3 hy; exact ⟨a, by omega, by omega⟩
    · obtain ⟨a, b⟩ := h.way h3 hy; exact ⟨a, by omega, by omega⟩
  split at hs
  · cases hs
  · simp only at hs
    split at hs
    · injection hs with e1 e2
      subst e1; subst e2
      refine ⟨LeadsOn.some (h.setReg _ (WOk.num (bone_ok in64_zero))) ?_ ?_, LeadsOn.some (h.setReg _ ⟨by simp, bone_ok in64_zero⟩) ?_ ?_, .inl (by simp)⟩ <;> (split <;> omega)
    · injection hs with e1 e2
      subst e1; subst e2
      refine ⟨LeadsOn.some h ?_ ?_, LeadsOn.none, .inl (by simp)⟩ <;> (split <;> omega)
theorem step_ways {s : VS} (h : VSOk s) {t : Step} {n : Nat} {pc : Int} (ht : StepOk n pc t) {x y : Option (VS × Int)} (hs : s.step t pc = .go x y) : LeadsOn n pc x ∧ LeadsOn n pc y ∧ (x ≠ none ∨ y ≠ none) := by
  have ht' := ht
  obtain ⟨h1, h2, h3⟩ := ht
  unfold VS.step at hs
  split at hs
  · repeat' split at hs
    all_goals cases hs
  rename_i h28
  have hn : pc + 1 < n := by omega
  split at hs
  · rename_i h14
    have hl := h2 (.inl h14)
    injection hs with e1 e2; subst e1; subst e2
    exact ⟨LeadsOn.some h (by omega) (by omega), LeadsOn.none, .inl (by simp)⟩
  split at hs
  · exact asks_ways h ht' (by assumption) hs
  split at hs
  · split at hs
    · cases hs
    · injection hs with e1 e2; subst e1; subst e2
      exact ⟨LeadsOn.some (h.setReg _ (h.load (h.1 _) _)) (by omega) hn, LeadsOn.none, .inl (by simp)⟩
  split at hs
  · split at hs
    · cases hs
    · injection hs with e1 e2; subst e1; subst e2
      exact ⟨LeadsOn.some (h.store _ _ (h.second h3)) (by omega) hn, LeadsOn.none, .inl (by simp)⟩
  split at hs
  · split at hs
    · cases hs
    · injection hs with e1 e2; subst e1; subst e2
      exact ⟨LeadsOn.some (h.call _) (by omega) hn, LeadsOn.none, .inl (by simp)⟩
  · split at hs
    · cases hs
    · injection hs with e1 e2; subst e1; subst e2
      exact ⟨LeadsOn.some (h.setReg _ (wcounts_ok (h.1 _) (h.operand h3))) (by omega) hn, LeadsOn.none, .inl (by simp)⟩
theorem step_done {s : VS} (h : VSOk s) {t : Step} {pc : Int} {b : B} (hs : s.step t pc = .done b) : b.Ok := by
  unfold VS.step VS.asks at hs
  split at hs
  · split at hs
    · injection hs with e; rw [← e]; exact (h.1 0).2
    · split at hs <;> cases hs
  · simp only at hs
    repeat' split at hs
    all_goals cases hs
end Go.Proofs.YtfpoicdfkjbknaaDoor.P
