/- It can't go wrong: what verify.Verify lets go runs to its end: plain law. Conditions: the program's check gives nothing, all numbers are int64's. -/
import Derived.Test.YtpdlmbbgioenoaaGreatDoorOneVer
import Derived.Test.YtpdlmbbgioenoaaGreatDoorPureInv
namespace Go.Proofs.YtpdlmbbgioenoaaGreatDoor.P
set_option linter.unusedSimpArgs false
set_option linter.unusedVariables false
open Go.RowKit (wrap64)

/-- a value is as it is known -/
def VRel (v : Val) (w : Wh) : Prop := w.kind = 0 ∨ (1 ≤ w.kind ∧ w.kind ≤ 4 ∧ v.kind = w.kind ∧ w.b.Has v.n) ∨ (w.kind = 5 ∧ (v.kind = 4 ∨ v.kind = 1) ∧ v.n = 0)
def SRel (M : Mach) (s : VS) : Prop := (∀ r, VRel (M.regs r) (s.regs r)) ∧ (∀ r, VRel (M.slots r) (s.slots r))
theorem VRel.nil {v : Val} : VRel v .nil := .inl rfl
theorem VRel.num {n : Int} {b : B} (h : b.Has n) : VRel (.num n) (.num b) := .inr (.inl ⟨by simp [Wh.num], by simp [Wh.num], rfl, h⟩)
theorem VRel.upd {f : Nat → Val} {g : Nat → Wh} (h : ∀ r, VRel (f r) (g r)) (i : Nat) {v : Val} {w : Wh} (hv : VRel v w) : ∀ r, VRel (upd f i v r) (upd g i w r) := by
  intro r
  by_cases e : r = i
  · subst e; rw [upd_same, upd_same]; exact hv
  · rw [upd_other e, upd_other e]; exact h r
theorem VRel.nonzero {v : Val} {w : Wh} (h : VRel v w) (hw : w.kind ≠ 0) : v.kind ≠ 0 := by unfold VRel at h; omega
theorem VRel.is1 {v : Val} {w : Wh} (h : VRel v w) (hw : w.kind = 1) : v.kind = 1 ∧ w.b.Has v.n := by
  rcases h with h | ⟨a, b, c, d⟩ | h
  · omega
  · exact ⟨by omega, d⟩
  · omega
theorem VRel.place {v : Val} {w : Wh} (h : VRel v w) (hw : w.kind = 2 ∨ w.kind = 3 ∨ w.kind = 4) : v.kind = w.kind ∧ w.b.Has v.n := by
  rcases h with h | ⟨a, b, c, d⟩ | h
  · omega
  · exact ⟨c, d⟩
  · omega
theorem bone_has (n : Int) : (bone n).Has n := ⟨Int.le_refl _, Int.le_refl _⟩

theorem far_sound {v : Val} {w : Wh} (h : VRel v w) (hw : WOk w) {o : Int} (ho : In64 o) (h0 : (vfar w o).2 = 0) :
    (far v o).2 = 0 ∧ (vfar w o).1.Has (far v o).1 ∧ v.kind = w.kind := by
  have hk := vfar_kind hw h0
  obtain ⟨e, h1, h2⟩ := vfar_at hw h0
  obtain ⟨k, hn⟩ := h.place hk
  have hs : (vfar w o).1.Has (wrap64 (v.n + o)) := by rw [e]; exact bdoes_sound (c := 2) hw.2 (bone_ok ho) hn (bone_has o)
  have hs' := hs
  unfold B.Has at hs
  unfold far
  rw [k, if_neg (by omega), if_neg (by omega), if_neg (by omega)]
  exact ⟨rfl, hs', rfl⟩
theorem vany_sound {sl : Nat → Wh} : ∀ (n k : Nat) (acc : B) {x : Wh}, vany sl n k acc = (x, 0) → x.kind = 1 ∧ (∀ m, acc.Has m → x.b.Has m) ∧ ∀ j, k ≤ j → j < k + n → (sl j).kind = 1 ∧ ∀ m, (sl j).b.Has m → x.b.Has m
  | 0, k, acc, x, h => by
    injection h with e; subst e
    exact ⟨rfl, fun m hm => hm, fun j h1 h2 => by omega⟩
  | n + 1, k, acc, x, h => by
    unfold vany at h
    split at h
    · injection h with _ e; simp at e
    rename_i k0
    split at h
    · injection h with _ e; simp at e
    rename_i k1
    obtain ⟨h1, h2, h3⟩ := vany_sound n (k + 1) _ h
    have ja : ∀ m, acc.Has m ∨ (sl k).b.Has m → (bjoin acc (sl k).b).Has m := fun m hm => by
      unfold bjoin B.Has at *; simp only; omega
    refine ⟨h1, fun m hm => h2 m (ja m (.inl hm)), fun j j1 j2 => ?_⟩
    by_cases e : j = k
    · subst e; exact ⟨by omega, fun m hm => h2 m (ja m (.inr hm))⟩
    · exact h3 j (by omega) (by omega)
theorem load_sound {M : Mach} {s : VS} (hR : SRel M s) (hN : MNum M) {told : Nat → Int} (ht : ∀ r, In64 (told r)) {v : Val} {w : Wh} (h : VRel v w) (hw : WOk w) {o : Int} (ho : In64 o) (h0 : (s.load w o).2 = 0) :
    (M.load told v o).2 = 0 ∧ VRel (M.load told v o).1 (s.load w o).1 := by
  have hf0 : (vfar w o).2 = 0 := by
    by_cases e : (vfar w o).2 = 0
    · exact e
    · unfold VS.load at h0; rw [if_pos e] at h0; exact absurd h0 e
  obtain ⟨f0, fb, fk⟩ := far_sound h hw ho hf0
  have hk := vfar_kind hw hf0
  obtain ⟨-, lo, hi⟩ := vfar_at hw hf0
  unfold VS.load at h0 ⊢
  unfold Mach.load
  simp only [hf0, f0, ne_eq, not_true_eq_false, if_false, fk] at h0 ⊢
  by_cases e3 : w.kind = 3
  · rw [e3] at lo hi
    simp only [low, high, if_true] at lo hi
    simp only [e3, not_true_eq_false, if_false, show ¬ (3 : Int) = 2 by omega, show ¬ (3 : Int) = 4 by omega] at h0 ⊢
    obtain ⟨b1, b2⟩ := fb
    by_cases el : (vfar w o).1.lo = (vfar w o).1.hi
    · simp only [el, if_true] at h0 ⊢
      have ek : (far v o).1 = (vfar w o).1.hi := by omega
      rw [ek]
      have hr := hR.2 ((vfar w o).1.hi + 16).toNat
      by_cases k0 : (s.slots ((vfar w o).1.hi + 16).toNat).kind = 0
      · rw [if_pos k0] at h0; simp at h0
      · simp only [if_neg k0, if_neg (hr.nonzero k0)]; exact ⟨trivial, hr⟩
    · simp only [el, if_false] at h0 ⊢
      obtain ⟨h1, h2, h3⟩ := vany_sound (sl := s.slots) _ _ _ (x := (vany s.slots ((vfar w o).1.hi - (vfar w o).1.lo + 1).toNat ((vfar w o).1.lo + 16).toNat (s.slots ((vfar w o).1.lo + 16).toNat).b).1) (Prod.ext rfl h0)
      obtain ⟨j1, j2⟩ := h3 ((far v o).1 + 16).toNat (by omega) (by omega)
      obtain ⟨m1, m2⟩ := (hR.2 ((far v o).1 + 16).toNat).is1 j1
      rw [if_neg (by omega)]
      exact ⟨rfl, .inr (.inl ⟨by omega, by omega, by simp only; omega, j2 _ m2⟩)⟩
  · simp only [e3, not_false_eq_true, if_true] at h0 ⊢
    by_cases e2 : w.kind = 2
    · simp only [e2, if_true]
      exact ⟨trivial, VRel.num (has_all (ht _))⟩
    · have e4 : w.kind = 4 := by omega
      simp only [e4, show ¬ (4 : Int) = 2 by omega, if_true, if_false]
      exact ⟨trivial, VRel.num (has_all (hN.2.2 _))⟩
theorem store_sound {M : Mach} {s : VS} (hR : SRel M s) {v x : Val} {w y : Wh} (h : VRel v w) (hw : WOk w) (hx : VRel x y) {o : Int} (ho : In64 o) (h0 : (s.store w o y).2 = 0) :
    (M.store v o x).2 = 0 ∧ SRel (M.store v o x).1 (s.store w o y).1 := by
  have hf0 : (vfar w o).2 = 0 := by
    by_cases e : (vfar w o).2 = 0
    · exact e
    · unfold VS.store at h0; rw [if_pos e] at h0; exact absurd h0 e
  obtain ⟨f0, fb, fk⟩ := far_sound h hw ho hf0
  have hk := vfar_kind hw hf0
  unfold VS.store at h0 ⊢
  unfold Mach.store
  simp only [hf0, f0, ne_eq, not_true_eq_false, if_false, fk] at h0 ⊢
  by_cases e2 : w.kind = 2
  · rw [if_pos e2] at h0; simp at h0
  simp only [e2, if_false] at h0 ⊢
  by_cases y0 : y.kind = 0
  · rw [if_pos y0] at h0; simp at h0
  have x0 := hx.nonzero y0
  simp only [y0, x0, if_false] at h0 ⊢
  by_cases e4 : w.kind = 4
  · simp only [e4, true_and, if_true, show ¬ (4 : Int) = 3 by omega, if_false] at h0 ⊢
    by_cases y1 : y.kind = 1
    · simp only [y1, not_true_eq_false, if_false, (hx.is1 y1).1] at h0 ⊢
      exact ⟨trivial, hR⟩
    · simp only [y1, not_false_eq_true, if_true] at h0
      simp at h0
  · have e3 : w.kind = 3 := by omega
    simp only [e3, show ¬ (3 : Int) = 4 by omega, false_and, if_true, if_false] at h0 ⊢
    obtain ⟨b1, b2⟩ := fb
    by_cases el : (vfar w o).1.lo = (vfar w o).1.hi
    · have ek : (far v o).1 = (vfar w o).1.hi := by omega
      simp only [el, not_true_eq_false, if_false, ek] at h0 ⊢
      exact ⟨trivial, hR.1, VRel.upd hR.2 _ hx⟩
    · simp only [el, not_false_eq_true, if_true] at h0
      simp at h0
theorem second_sound {M : Mach} {s : VS} (hR : SRel M s) (t : Step) : VRel (M.second t) (s.second t) := by
  unfold Mach.second VS.second
  split
  · exact hR.1 _
  · exact VRel.num (bone_has _)
theorem wshift_sound {a b : Val} {x y : Wh} (ha : VRel a x) (hb : VRel b y) (hx : WOk x) (hy : WOk y) (hax : x.kind ≠ 1) {c : Int} (h0 : (wshift c x y).2 = 0) (hc0 : x.kind ≠ 0) :
    (c = 2 ∨ c = 3) ∧ b.kind = 1 ∧ (a.kind = x.kind ∧ x.kind ≠ 1 ∧ x.kind ≠ 5) ∧ VRel ⟨a.kind, does c a.n b.n, a.cell⟩ (wshift c x y).1 := by
  unfold wshift at *
  split at h0
  · simp at h0
  rename_i h1
  rw [if_neg h1]
  split at h0
  · simp at h0
  rename_i h2
  rw [if_neg h2]
  have hk := hx.1
  obtain ⟨k1, m1⟩ := ha.place (by omega)
  obtain ⟨k2, m2⟩ := hb.is1 (by omega)
  refine ⟨by omega, k2, ⟨k1, hax, by omega⟩, .inr (.inl ⟨by simp only; omega, by simp only; omega, k1, bdoes_sound hx.2 hy.2 m1 m2⟩)⟩
theorem counts_sound {a b : Val} {x y : Wh} (ha : VRel a x) (hb : VRel b y) (hx : WOk x) (hy : WOk y) {c : Int} (h0 : (wcounts c x y).2 = 0) : (vcounts c a b).2 = 0 ∧ VRel (vcounts c a b).1 (wcounts c x y).1 := by
  unfold wcounts at h0 ⊢
  by_cases h1 : y.kind = 0 ∨ (x.kind = 0 ∧ c ≠ 1)
  · rw [if_pos h1] at h0; simp at h0
  rw [if_neg h1] at h0 ⊢
  have hb0 : b.kind ≠ 0 := hb.nonzero (by omega)
  by_cases h2 : c = 1
  · rw [if_pos h2]
    unfold vcounts
    rw [if_neg (by omega), if_pos h2]
    exact ⟨rfl, hb⟩
  rw [if_neg h2] at h0 ⊢
  have ha0 : a.kind ≠ 0 := ha.nonzero (by omega)
  unfold vcounts
  rw [if_neg (by omega), if_neg h2]
  by_cases h3 : x.kind = 1 ∧ y.kind = 1
  · rw [if_pos h3]
    obtain ⟨k1, m1⟩ := ha.is1 h3.1
    obtain ⟨k2, m2⟩ := hb.is1 h3.2
    rw [if_pos ⟨k1, k2⟩]
    exact ⟨rfl, VRel.num (bdoes_sound hx.2 hy.2 m1 m2)⟩
  rw [if_neg h3] at h0 ⊢
  by_cases h4 : c = 2 ∧ x.kind = 1
  · rw [if_pos h4] at h0 ⊢
    obtain ⟨k1, m1⟩ := ha.is1 h4.2
    obtain ⟨g1, g2, g3, g4⟩ := wshift_sound hb ha hy hx (by omega) h0 (by omega)
    rw [if_neg (by omega), if_pos ⟨h4.1, k1⟩]
    refine ⟨rfl, ?_⟩
    rw [← h4.1]; exact g4
  · rw [if_neg h4] at h0 ⊢
    by_cases hx1 : x.kind = 1
    · exfalso
      unfold wshift at h0
      rw [if_pos (by omega)] at h0
      simp at h0
    obtain ⟨g1, g2, g3, g4⟩ := wshift_sound ha hb hx hy hx1 h0 (by omega)
    rw [if_neg (by omega), if_neg (by omega), if_neg (by omega)]
    exact ⟨rfl, g4⟩
theorem call_sound {M : Mach} {s : VS} (hR : SRel M s) {time : Int} (ht : In64 time) (n : Int) (hn : 1 ≤ n ∧ n ≤ 3) (h0 : (s.call n).2 = 0) : (M.call time n).2 = 0 ∧ SRel (M.call time n).1 (s.call n).1 := by
  unfold VS.call at h0 ⊢
  by_cases h1 : n ≠ 2 ∧ (s.regs 1).kind = 0
  · rw [if_pos h1] at h0; simp at h0
  rw [if_neg h1] at h0 ⊢
  by_cases h2 : n ≠ 2 ∧ (s.regs 1).kind ≠ 1
  · rw [if_pos h2] at h0; simp at h0
  rw [if_neg h2]
  unfold Mach.call
  have hk : n = 2 ∨ (M.regs 1).kind = 1 := by
    by_cases e : n = 2
    · exact .inl e
    · exact .inr ((hR.1 1).is1 (by omega)).1
  rw [if_neg (by omega), if_neg (by omega)]
  refine ⟨rfl, fun r => ?_, hR.2⟩
  simp only
  by_cases r0 : r = 0
  · rw [if_pos r0, if_pos r0]
    by_cases n1 : n = 1
    · rw [if_pos n1, if_pos n1]
      split
      · exact .inr (.inr ⟨rfl, .inl rfl, rfl⟩)
      · exact .inr (.inr ⟨rfl, .inr rfl, rfl⟩)
    · rw [if_neg n1, if_neg n1]
      by_cases n2 : n = 2
      · rw [if_pos n2, if_neg (by omega)]; exact VRel.num (has_all ht)
      · rw [if_neg n2, if_pos (by omega)]; exact VRel.num (bone_has 0)
  · rw [if_neg r0, if_neg r0]
    split
    · exact VRel.nil
    · exact hR.1 r
theorem narrowed_sound {M : Mach} {s : VS} (hR : SRel M s) (t : Step) {x y : B} (hx : (s.regs t.dst.toNat).kind = 1 → x.Has (M.regs t.dst.toNat).n) (hy : t.reg = true → (s.regs t.src.toNat).kind = 1 → y.Has (M.regs t.src.toNat).n)
    (h1 : (s.regs t.dst.toNat).kind = 1) (h2 : (s.second t).kind = 1) : SRel M (s.narrowed t x y) := by
  have self : ∀ r, M.regs r = upd M.regs r (M.regs r) r := fun r => by rw [upd_same]
  have eta : ∀ r : Nat, upd M.regs r (M.regs r) = M.regs := fun r => by
    funext j; by_cases e : j = r
    · subst e; rw [upd_same]
    · rw [upd_other e]
  have kd := ((hR.1 t.dst.toNat).is1 h1).1
  have nd : VRel (M.regs t.dst.toNat) ⟨(s.regs t.dst.toNat).kind, x⟩ := .inr (.inl ⟨by simp only; omega, by simp only; omega, by simp only; omega, hx h1⟩)
  unfold VS.narrowed
  by_cases hr : t.reg = true
  · rw [if_pos hr]
    split
    · exact hR
    · have h2' : (s.regs t.src.toNat).kind = 1 := by unfold VS.second at h2; rwa [if_pos hr] at h2
      have ks := ((hR.1 t.src.toNat).is1 h2').1
      have ns : VRel (M.regs t.src.toNat) ⟨(s.regs t.src.toNat).kind, y⟩ := .inr (.inl ⟨by simp only; omega, by simp only; omega, by simp only; omega, hy hr h2'⟩)
      refine ⟨?_, hR.2⟩
      have := VRel.upd (VRel.upd hR.1 t.src.toNat ns) t.dst.toNat nd
      rwa [eta, eta] at this
  · rw [if_neg hr]
    refine ⟨?_, hR.2⟩
    have := VRel.upd hR.1 t.dst.toNat nd
    rwa [eta] at this
/-- a way is there, and the machine is as it is known there -/
theorem way_sound {M : Mach} {s : VS} (hR : SRel M s) (hs : VSOk s) {t : Step} (ht : In64 t.num) {c nx : Int} (hi : P.is c (M.regs t.dst.toNat).n (M.second t).n = true) (h1 : (s.regs t.dst.toNat).kind = 1) (h2 : (s.second t).kind = 1) :
    ∃ s', s.way t c nx = some (s', nx) ∧ SRel M s' := by
  have ha := (hs.1 t.dst.toNat).2
  have hb := (hs.second ht).2
  have m1 := ((hR.1 t.dst.toNat).is1 h1).2
  have m2 := ((second_sound hR t).is1 h2).2
  obtain ⟨e, x1, x2⟩ := bnarrow_sound ha hb m1 m2 hi
  refine ⟨_, if_pos e, narrowed_sound hR t (fun _ => x1) (fun hr _ => ?_) h1 h2⟩
  have : M.second t = M.regs t.src.toNat := if_pos hr
  rwa [this] at x2
/-- a step of the machine goes a way that was gone -/
def Gone (M' : Mach) (nx : Int) (x y : Option (VS × Int)) : Prop := (∃ s', x = some (s', nx) ∧ SRel M' s') ∨ (∃ s', y = some (s', nx) ∧ SRel M' s')
def StepSound (M : Mach) (R : Res) : VRes → Prop
  | .done b => ∃ n, R = .done M n ∧ b.Has n
  | .err _ => True
  | .go x y => ∃ M' nx, R = .go M' nx ∧ Gone M' nx x y
theorem asks_sound {M : Mach} {s : VS} (hR : SRel M s) (hs : VSOk s) {told : Nat → Int} {time : Int} {t : Step} {pc : Int} (ht : In64 t.num) (hc : 15 ≤ t.code ∧ t.code ≤ 24) (hd : 0 ≤ t.dst) :
    StepSound M (M.step told time t pc) (s.asks t pc) := by
  have hst : M.step told time t pc = if (M.asks t).2 ≠ 0 then .err (M.asks t).2 else if (M.asks t).1 then .go M (pc + 1 + t.off) else .go M (pc + 1) := by
    unfold Mach.step
    rw [if_neg (by omega), if_neg (by omega), if_pos hc]
  have hsec := second_sound hR t
  unfold VS.asks
  split
  · trivial
  rename_i h0
  have a0 : (M.regs t.dst.toNat).kind ≠ 0 := (hR.1 _).nonzero (by omega)
  have b0 : (M.second t).kind ≠ 0 := hsec.nonzero (by omega)
  split
  · rename_i h1
    have k1 := ((hR.1 t.dst.toNat).is1 h1.1).1
    have k2 := (hsec.is1 h1.2).1
    have e : M.asks t = (P.is t.code (M.regs t.dst.toNat).n (M.second t).n, 0) := by
      unfold Mach.asks; simp only; rw [if_neg (by omega), if_pos ⟨k1, k2⟩]
    rw [hst, e]
    simp only [ne_eq, not_true_eq_false, if_false]
    by_cases hi : P.is t.code (M.regs t.dst.toNat).n (M.second t).n = true
    · rw [if_pos hi]
      exact ⟨M, _, rfl, .inr (way_sound hR hs ht hi h1.1 h1.2)⟩
    · rw [if_neg hi]
      exact ⟨M, _, rfl, .inl (way_sound hR hs ht (by rw [opp_is (by simp [P.asks, hc])]; simpa using hi) h1.1 h1.2)⟩
  rename_i h1
  split
  · trivial
  rename_i h2
  have hreg : t.reg = false := by cases hr : t.reg <;> simp_all
  have es : M.second t = .num 0 := by unfold Mach.second; rw [hreg]; simp only [Bool.false_eq_true, if_false]; rw [show t.num = 0 by omega]
  have e2 : s.second t = .num (bone 0) := by unfold VS.second; rw [hreg]; simp only [Bool.false_eq_true, if_false]; rw [show t.num = 0 by omega]
  have x1 : (s.regs t.dst.toNat).kind ≠ 1 := fun e => h1 ⟨e, by rw [e2]; rfl⟩
  have hk := (hs.1 t.dst.toNat).1
  simp only
  by_cases k5 : (s.regs t.dst.toNat).kind = 5
  · rw [if_pos k5]
    have hv := hR.1 t.dst.toNat
    have hv' : ((M.regs t.dst.toNat).kind = 4 ∨ (M.regs t.dst.toNat).kind = 1) ∧ (M.regs t.dst.toNat).n = 0 := by unfold VRel at hv; omega
    have eta : upd M.regs t.dst.toNat (M.regs t.dst.toNat) = M.regs := by
      funext j; by_cases e : j = t.dst.toNat
      · subst e; rw [upd_same]
      · rw [upd_other e]
    by_cases k4 : (M.regs t.dst.toNat).kind = 4
    · have e : M.asks t = (decide (t.code = 16), 0) := by
        unfold Mach.asks; simp only; rw [if_neg (by omega), if_neg (by omega), if_neg h2]
      rw [hst, e]
      simp only [ne_eq, not_true_eq_false, if_false, decide_eq_true_eq]
      have hs4 : SRel M (s.setReg t.dst ⟨4, bone 0⟩) := by
        refine ⟨?_, hR.2⟩
        have := VRel.upd hR.1 t.dst.toNat (v := M.regs t.dst.toNat) (w := ⟨4, bone 0⟩) (.inr (.inl ⟨by simp, by simp, k4, by rw [hv'.2]; exact bone_has 0⟩))
        rwa [eta] at this
      by_cases c16 : t.code = 16
      · simp only [c16, if_true]; exact ⟨M, _, rfl, .inr ⟨_, rfl, hs4⟩⟩
      · simp only [c16, if_false]; exact ⟨M, _, rfl, .inr ⟨_, rfl, hs4⟩⟩
    · have k1 : (M.regs t.dst.toNat).kind = 1 := by omega
      have e : M.asks t = (P.is t.code (M.regs t.dst.toNat).n (M.second t).n, 0) := by
        unfold Mach.asks; simp only; rw [if_neg (by omega), if_pos ⟨k1, by rw [es]; rfl⟩]
      have hs1 : SRel M (s.setReg t.dst (.num (bone 0))) := by
        refine ⟨?_, hR.2⟩
        have := VRel.upd hR.1 t.dst.toNat (v := M.regs t.dst.toNat) (w := .num (bone 0)) (.inr (.inl ⟨by simp [Wh.num], by simp [Wh.num], by simpa [Wh.num] using k1, by rw [hv'.2]; exact bone_has 0⟩))
        rwa [eta] at this
      rw [hst, e, es, hv'.2]
      have c15 : t.code = 15 ∨ t.code = 16 := by omega
      rcases c15 with c | c <;> rw [c] <;> simp [P.is, Val.num] <;> exact ⟨M, _, rfl, .inl ⟨_, rfl, hs1⟩⟩
  · rw [if_neg k5]
    have hp := (hR.1 t.dst.toNat).place (by omega)
    have e : M.asks t = (decide (t.code = 16), 0) := by
      unfold Mach.asks; simp only; rw [if_neg (by omega), if_neg (by omega), if_neg h2]
    rw [hst, e]
    simp only [ne_eq, not_true_eq_false, if_false, decide_eq_true_eq]
    by_cases c16 : t.code = 16
    · simp only [c16, if_true]; exact ⟨M, _, rfl, .inl ⟨s, rfl, hR⟩⟩
    · simp only [c16, if_false]; exact ⟨M, _, rfl, .inl ⟨s, rfl, hR⟩⟩
theorem SRel.setReg {M : Mach} {s : VS} (hR : SRel M s) (r : Int) {v : Val} {w : Wh} (h : VRel v w) : SRel { M with regs := P.upd M.regs r.toNat v } (s.setReg r w) := ⟨VRel.upd hR.1 _ h, hR.2⟩
theorem step_sound {M : Mach} {s : VS} (hR : SRel M s) (hs : VSOk s) (hN : MNum M) {told : Nat → Int} (htl : ∀ r, In64 (told r)) {time : Int} (htm : In64 time) {t : Step} {pc : Int} (ht : In64 t.num) (ho : In64 t.off) (hd : 0 ≤ t.dst) (hcl : t.code = 27 → 1 ≤ t.num ∧ t.num ≤ 3) :
    StepSound M (M.step told time t pc) (s.step t pc) := by
  by_cases ha : 15 ≤ t.code ∧ t.code ≤ 24
  · have e : s.step t pc = s.asks t pc := by unfold VS.step; rw [if_neg (by omega), if_neg (by omega), if_pos ha]
    rw [e]; exact asks_sound hR hs ht ha hd
  unfold VS.step Mach.step
  by_cases c28 : t.code = 28
  · simp only [c28, if_true]
    by_cases k1 : (s.regs 0).kind = 1
    · rw [if_pos k1, if_pos ((hR.1 0).is1 k1).1]
      exact ⟨_, rfl, ((hR.1 0).is1 k1).2⟩
    · rw [if_neg k1]
      by_cases k0 : (s.regs 0).kind = 0
      · rw [if_pos k0]; trivial
      · rw [if_neg k0]; trivial
  simp only [c28, if_false]
  by_cases c14 : t.code = 14
  · simp only [c14, if_true]; exact ⟨M, _, rfl, .inl ⟨s, rfl, hR⟩⟩
  simp only [c14, ha, if_false]
  by_cases c25 : t.code = 25
  · simp only [c25, if_true]
    by_cases h0 : (s.load (s.regs t.src.toNat) t.off).2 = 0
    · obtain ⟨l0, lv⟩ := load_sound hR hN htl (hR.1 t.src.toNat) (hs.1 _) ho h0
      rw [if_neg (by simp [l0]), if_neg (by simp [h0])]
      exact ⟨_, _, rfl, .inl ⟨_, rfl, hR.setReg _ lv⟩⟩
    · rw [if_pos (c := (s.load (s.regs t.src.toNat) t.off).2 ≠ 0) h0]; trivial
  simp only [c25, if_false]
  by_cases c26 : t.code = 26
  · simp only [c26, if_true]
    by_cases h0 : (s.store (s.regs t.dst.toNat) t.off (s.second t)).2 = 0
    · obtain ⟨l0, lv⟩ := store_sound hR (hR.1 t.dst.toNat) (hs.1 _) (second_sound hR t) ho h0
      rw [if_neg (by simp [l0]), if_neg (by simp [h0])]
      exact ⟨_, _, rfl, .inl ⟨_, rfl, lv⟩⟩
    · rw [if_pos (c := (s.store (s.regs t.dst.toNat) t.off (s.second t)).2 ≠ 0) h0]; trivial
  simp only [c26, if_false]
  by_cases c27 : t.code = 27
  · simp only [c27, if_true]
    by_cases h0 : (s.call t.num).2 = 0
    · obtain ⟨l0, lv⟩ := call_sound hR htm t.num (hcl c27) h0
      rw [if_neg (by simp [l0]), if_neg (by simp [h0])]
      exact ⟨_, _, rfl, .inl ⟨_, rfl, lv⟩⟩
    · rw [if_pos (c := (s.call t.num).2 ≠ 0) h0]; trivial
  simp only [c27, if_false]
  have hop : VRel (if t.code = 13 then Val.num 0 else M.second t) (s.operand t) := by
    unfold VS.operand; split
    · exact VRel.num (bone_has 0)
    · exact second_sound hR t
  generalize (if t.code = 13 then Val.num 0 else M.second t) = z at hop
  by_cases h0 : (wcounts t.code (s.regs t.dst.toNat) (s.operand t)).2 = 0
  · obtain ⟨l0, lv⟩ := counts_sound (hR.1 t.dst.toNat) hop (hs.1 _) (hs.operand ht) (c := t.code) h0
    rw [if_neg (by simp [l0]), if_neg (by simp [h0])]
    exact ⟨_, _, rfl, .inl ⟨_, rfl, hR.setReg _ lv⟩⟩
  · rw [if_pos (c := (wcounts t.code (s.regs t.dst.toNat) (s.operand t)).2 ≠ 0) h0]; trivial
theorem mrun_succ (S : Nat → Step) (told : Nat → Int) (time : Int) (k : Nat) (M : Mach) (pc st : Int) : Mach.run S told time (k + 1) M pc st = (match M.step told time (S pc.toNat) pc with
    | .done M n => .inr (M, n, st)
    | .err e => .inl (e, pc)
    | .go M next => Mach.run S told time k M next (st + 1)) := rfl
theorem thenOf_ok {r : VR} {f : Wk → VR} (h : (thenOf r f).1.1 = 0) : r.1.1 = 0 ∧ thenOf r f = f r.2 := by
  unfold thenOf at *
  split at h
  · rename_i h1; exact absurd h h1
  · rename_i h1; rw [if_neg h1]; exact ⟨by simpa using h1, rfl⟩
/-- what is let go runs to its end -/
theorem walk_sound {S : Nat → Step} {n : Nat} (hP : ProgOk S n) {told : Nat → Int} (htl : ∀ r, In64 (told r)) {time : Int} (htm : In64 time) :
    ∀ (k : Nat) (M : Mach) (s : VS) (pc st : Int) (w : Wk), SRel M s → VSOk s → MOk M → MNum M → 0 ≤ pc → pc < n → n ≤ pc + k → (vwalk S k s pc w).1.1 = 0 →
      ∃ M' num st', Mach.run S told time k M pc st = .inr (M', num, st') ∧ (∃ b ∈ (vwalk S k s pc w).2.ends, b.Has num) ∧ st ≤ st' ∧ st' + pc < st + n
  | 0, M, s, pc, st, w, _, _, _, _, h0, h1, h2, _ => by omega
  | k + 1, M, s, pc, st, w, hR, hs, hO, hN, h0, h1, h2, hv => by
    rw [vwalk_succ] at hv ⊢
    rw [mrun_succ]
    by_cases hl : 4000 < w.looks + 1
    · rw [if_pos hl] at hv; simp at hv
    rw [if_neg hl] at hv ⊢
    have hj : pc.toNat < n := by omega
    have ht : StepOk n pc (S pc.toNat) := by have := hP.step pc.toNat hj; rwa [Int.toNat_of_nonneg h0] at this
    have ho := hP.off pc.toNat hj
    have hw := wrong_ok (hP.wrong pc.toNat hj)
    have hsd := step_sound hR hs hN htl htm (pc := pc) ht.2.2 ho hw.2.1.1 (fun c => call_num hw.2.2.2 c)
    generalize hT : S pc.toNat = t at *
    cases hr : s.step t pc with
    | done b =>
      rw [hr] at hsd
      obtain ⟨num, e, hb⟩ := hsd
      rw [e]
      exact ⟨M, num, st, rfl, ⟨b, by simp [waysOf], hb⟩, Int.le_refl _, by omega⟩
    | err e => rw [hr] at hv; exact absurd hv (step_err hr)
    | go x y =>
      rw [hr] at hsd hv
      obtain ⟨M', nx, e, hg⟩ := hsd
      obtain ⟨hx, hy, hxy⟩ := step_ways hs ht hr
      obtain ⟨hO', hN'⟩ := step_keeps hO hN htl htm ht.2.2 e
      rw [e]
      obtain ⟨v1, v2⟩ := thenOf_ok hv
      have hv2 : (wayOf (vwalk S k) y (wayOf (vwalk S k) x ⟨w.looks + 1, w.ends⟩).2).1.1 = 0 := by rw [← v2]; exact hv
      have ev : (waysOf (vwalk S k) pc ⟨w.looks + 1, w.ends⟩ (.go x y)) = wayOf (vwalk S k) y (wayOf (vwalk S k) x ⟨w.looks + 1, w.ends⟩).2 := v2
      rw [ev]
      rcases hg with ⟨s', rfl, hR'⟩ | ⟨s', rfl, hR'⟩
      · obtain ⟨a, b, c⟩ := hx _ rfl
        obtain ⟨Mf, num, st', h4, ⟨d, hd, hdn⟩, h6, h7⟩ := walk_sound hP htl htm k M' s' nx (st + 1) ⟨w.looks + 1, w.ends⟩ hR' a hO' hN' (by simp only at b; omega) c (by simp only at b; omega) v1
        refine ⟨Mf, num, st', h4, ⟨d, ?_, hdn⟩, by omega, by simp only at b; omega⟩
        cases y with
        | none => exact hd
        | some z =>
          obtain ⟨a', b', c'⟩ := hy _ rfl
          obtain ⟨l, hl, -⟩ := (vwalk_keeps hP.step k z.1 z.2 (vwalk S k s' nx ⟨w.looks + 1, w.ends⟩).2 a' (by omega) c' (by omega)).more
          show d ∈ (vwalk S k z.1 z.2 (vwalk S k s' nx ⟨w.looks + 1, w.ends⟩).2).2.ends
          rw [hl]; exact List.mem_append_left _ hd
      · obtain ⟨a, b, c⟩ := hy _ rfl
        obtain ⟨Mf, num, st', h4, ⟨d, hd, hdn⟩, h6, h7⟩ := walk_sound hP htl htm k M' s' nx (st + 1) (wayOf (vwalk S k) x ⟨w.looks + 1, w.ends⟩).2 hR' a hO' hN' (by simp only at b; omega) c (by simp only at b; omega) hv2
        exact ⟨Mf, num, st', h4, ⟨d, hd, hdn⟩, by omega, by simp only at b; omega⟩
/-- the beginning -/
theorem init_rel (cells : Nat → Int) : SRel (Mach.init cells) VS.init := by
  refine ⟨fun r => ?_, fun r => .inl rfl⟩
  unfold Mach.init VS.init
  simp only
  by_cases h1 : r = 1
  · rw [if_pos h1, if_pos h1]; exact .inr (.inl ⟨by simp, by simp, rfl, bone_has 0⟩)
  rw [if_neg h1, if_neg h1]
  by_cases h2 : r = 10
  · rw [if_pos h2, if_pos h2]; exact .inr (.inl ⟨by simp, by simp, rfl, bone_has 0⟩)
  · rw [if_neg h2, if_neg h2]; exact .inl rfl
/-- IT CAN'T GO WRONG -/
theorem run_sound {S : Nat → Step} {n : Nat} (h1 : 1 ≤ n) (hP : ProgOk S n) {told cells : Nat → Int} (htl : ∀ r, In64 (told r)) (hc : ∀ r, In64 (cells r)) {time : Int} (htm : In64 time) (h : (vrun S n).1.1 = 0) :
    ∃ M' num st', Mach.run S told time n (Mach.init cells) 0 1 = .inr (M', num, st') ∧ (outOf (vrun S n).2.ends).Has num ∧ 1 ≤ st' ∧ st' ≤ n := by
  obtain ⟨M', num, st', e, ⟨b, hb, hn⟩, h3, h4⟩ := walk_sound hP htl htm n (Mach.init cells) VS.init 0 1 ⟨0, []⟩ (init_rel cells) VSOk.init (MOk.init cells) (MNum.init hc) (Int.le_refl _) (by omega) (by omega) h
  exact ⟨M', num, st', e, outOf_has hb hn, h3, by omega⟩
end Go.Proofs.YtpdlmbbgioenoaaGreatDoor.P
