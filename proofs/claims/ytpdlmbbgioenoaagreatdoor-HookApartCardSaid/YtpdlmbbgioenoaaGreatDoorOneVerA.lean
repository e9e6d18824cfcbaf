/- A part of the proof; each theorem states its conditions. -/
import Derived.Test.YtpdlmbbgioenoaaGreatDoorPureRun
import Derived.Test.YtpdlmbbgioenoaaGreatDoorWalkCheck
import Derived.Test.YtpdlmbbgioenoaaGreatDoorWalkBound5
import Derived.Test.YtpdlmbbgioenoaaGreatDoorCalm
import Derived.Outline
import Derived.BigRegion
import Derived.Deep.Light
import Derived.Test.YtpdlmbbgioenoaaGreatDoorWalkBound3
import Derived.Test.YtpdlmbbgioenoaaGreatDoorMidQuiet
import Derived.Deep.CutBlock
import Derived.Deep.DeepCutAuto
import Derived.Deep.LoopGhost
set_option linter.unusedSimpArgs false
set_option linter.unusedVariables false
set_option maxRecDepth 100000
namespace Go.Proofs.YtpdlmbbgioenoaaGreatDoor.P
open Go.RowKit (wrap64)
structure Wh where
 kind : Int
 b : B
def Wh.nil : Wh := ⟨0, bnil⟩
def Wh.num (b : B) : Wh := ⟨1, b⟩
structure VS where
 regs : Nat → Wh
 slots : Nat → Wh
def vfar (w : Wh) (off : Int) : B × Int :=
 if w.kind = 0 then (bnil, 8) else if w.kind = 1 ∨ w.kind = 5 then (bnil, 1)
 else if (bdoes 2 w.b (bone off)).lo < low w.kind ∨ high w.kind < (bdoes 2 w.b (bone off)).hi then (bnil, 2) else (bdoes 2 w.b (bone off), 0)
def vany (sl : Nat → Wh) : Nat → Nat → B → Wh × Int
 | 0, _, acc => (Wh.num acc, 0)
 | n + 1, k, acc => if (sl k).kind = 0 then (Wh.nil, 8) else if (sl k).kind ≠ 1 then (Wh.nil, 1) else vany sl n (k + 1) (bjoin acc (sl k).b)
def VS.load (s : VS) (w : Wh) (off : Int) : Wh × Int :=
 if (vfar w off).2 ≠ 0 then (.nil, (vfar w off).2)
 else if w.kind ≠ 3 then (.num ball, 0)
 else if (vfar w off).1.lo = (vfar w off).1.hi then (if (s.slots ((vfar w off).1.lo + 16).toNat).kind = 0 then (.nil, 8) else (s.slots ((vfar w off).1.lo + 16).toNat, 0))
 else vany s.slots ((vfar w off).1.hi - (vfar w off).1.lo + 1).toNat ((vfar w off).1.lo + 16).toNat (s.slots ((vfar w off).1.lo + 16).toNat).b
def VS.store (s : VS) (w : Wh) (off : Int) (x : Wh) : VS × Int :=
 if (vfar w off).2 ≠ 0 then (s, (vfar w off).2)
 else if w.kind = 2 then (s, 6) else if x.kind = 0 then (s, 8)
 else if w.kind = 4 ∧ x.kind ≠ 1 then (s, 1) else if w.kind = 4 then (s, 0)
 else if (vfar w off).1.lo ≠ (vfar w off).1.hi then (s, 2)
 else ({ s with slots := upd s.slots ((vfar w off).1.lo + 16).toNat x }, 0)
def VS.second (s : VS) (t : Step) : Wh := if t.reg then s.regs t.src.toNat else .num (bone t.num)
def VS.operand (s : VS) (t : Step) : Wh := if t.code = 13 then .num (bone 0) else s.second t
def wshift (c : Int) (a b : Wh) : Wh × Int :=
 if b.kind ≠ 1 ∨ a.kind = 5 ∨ (c ≠ 2 ∧ c ≠ 3) then (.nil, 1)
 else if bdoes c a.b b.b = ball then (.nil, 2) else (⟨a.kind, bdoes c a.b b.b⟩, 0)
def wcounts (c : Int) (a b : Wh) : Wh × Int :=
 if b.kind = 0 ∨ (a.kind = 0 ∧ c ≠ 1) then (.nil, 8)
 else if c = 1 then (b, 0)
 else if a.kind = 1 ∧ b.kind = 1 then (.num (bdoes c a.b b.b), 0)
 else if c = 2 ∧ a.kind = 1 then wshift c b a else wshift c a b
def VS.call (s : VS) (n : Int) : VS × Int :=
 if n ≠ 2 ∧ (s.regs 1).kind = 0 then (s, 8) else if n ≠ 2 ∧ (s.regs 1).kind ≠ 1 then (s, 1)
 else ({ s with regs := fun j => if j = 0 then (if n = 1 then ⟨5, bone 0⟩ else if n = 3 then .num (bone 0) else .num ball) else if 1 ≤ j ∧ j ≤ 5 then .nil else s.regs j }, 0)
inductive VRes where
 | done (b : B)
 | err (e : Int)
 | go (x y : Option (VS × Int))
def VS.narrowed (s : VS) (t : Step) (x y : B) : VS :=
 if t.reg then (if t.src = t.dst then s else { s with regs := upd (upd s.regs t.src.toNat ⟨(s.regs t.src.toNat).kind, y⟩) t.dst.toNat ⟨(s.regs t.dst.toNat).kind, x⟩ })
 else { s with regs := upd s.regs t.dst.toNat ⟨(s.regs t.dst.toNat).kind, x⟩ }
def VS.way (s : VS) (t : Step) (c : Int) (next : Int) : Option (VS × Int) :=
 if (bnarrow c (s.regs t.dst.toNat).b (s.second t).b).2.2 then some (s.narrowed t (bnarrow c (s.regs t.dst.toNat).b (s.second t).b).1 (bnarrow c (s.regs t.dst.toNat).b (s.second t).b).2.1, next) else none
def VS.setReg (s : VS) (r : Int) (w : Wh) : VS := { s with regs := upd s.regs r.toNat w }
def VS.asks (s : VS) (t : Step) (pc : Int) : VRes :=
 if (s.regs t.dst.toNat).kind = 0 ∨ (s.second t).kind = 0 then .err 8
 else if (s.regs t.dst.toNat).kind = 1 ∧ (s.second t).kind = 1 then .go (s.way t (opp t.code) (pc + 1)) (s.way t t.code (pc + 1 + t.off))
 else if t.reg = true ∨ t.num ≠ 0 ∨ (t.code ≠ 15 ∧ t.code ≠ 16) then .err 1
 else
  let there := if t.code = 16 then pc + 1 + t.off else pc + 1
  let none' := if t.code = 16 then pc + 1 else pc + 1 + t.off
  if (s.regs t.dst.toNat).kind = 5 then .go (some (s.setReg t.dst (.num (bone 0)), none')) (some (s.setReg t.dst ⟨4, bone 0⟩, there)) else .go (some (s, there)) none
def VS.step (s : VS) (t : Step) (pc : Int) : VRes :=
 if t.code = 28 then (if (s.regs 0).kind = 1 then .done (s.regs 0).b else if (s.regs 0).kind = 0 then .err 8 else .err 1)
 else if t.code = 14 then .go (some (s, pc + 1 + t.off)) none
 else if 15 ≤ t.code ∧ t.code ≤ 24 then s.asks t pc
 else if t.code = 25 then (if (s.load (s.regs t.src.toNat) t.off).2 ≠ 0 then .err (s.load (s.regs t.src.toNat) t.off).2 else .go (some (s.setReg t.dst (s.load (s.regs t.src.toNat) t.off).1, pc + 1)) none)
 else if t.code = 26 then (if (s.store (s.regs t.dst.toNat) t.off (s.second t)).2 ≠ 0 then .err (s.store (s.regs t.dst.toNat) t.off (s.second t)).2 else .go (some ((s.store (s.regs t.dst.toNat) t.off (s.second t)).1, pc + 1)) none)
 else if t.code = 27 then (if (s.call t.num).2 ≠ 0 then .err (s.call t.num).2 else .go (some ((s.call t.num).1, pc + 1)) none)
 else (if (wcounts t.code (s.regs t.dst.toNat) (s.operand t)).2 ≠ 0 then .err (wcounts t.code (s.regs t.dst.toNat) (s.operand t)).2 else .go (some (s.setReg t.dst (wcounts t.code (s.regs t.dst.toNat) (s.operand t)).1, pc + 1)) none)
structure Wk where
 looks : Int
 ends : List B
def outOf : List B → B
 | [] => bnil
 | x :: l => l.foldl bjoin x
abbrev VR := (Int × Int) × Wk
def wayOf (f : VS → Int → Wk → VR) (o : Option (VS × Int)) (w : Wk) : VR :=
 match o with
 | none => ((0, -1), w)
 | some x => f x.1 x.2 w
def thenOf (r : VR) (f : Wk → VR) : VR := if r.1.1 ≠ 0 then r else f r.2
def waysOf (f : VS → Int → Wk → VR) (pc : Int) (w : Wk) : VRes → VR
 | .done b => ((0, -1), ⟨w.looks, w.ends ++ [b]⟩)
 | .err e => ((e, pc), w)
 | .go x y => thenOf (wayOf f x w) (wayOf f y)
def vwalk (S : Nat → Step) : Nat → VS → Int → Wk → VR
 | 0, _, _, w => ((0, -1), w)
 | k + 1, s, pc, w =>
  if 4000 < w.looks + 1 then ((4, pc), ⟨w.looks + 1, w.ends⟩)
  else waysOf (vwalk S k) pc ⟨w.looks + 1, w.ends⟩ (s.step (S pc.toNat) pc)
def VS.init : VS := ⟨fun r => if r = 1 then ⟨2, bone 0⟩ else if r = 10 then ⟨3, bone 0⟩ else .nil, fun _ => .nil⟩
def vrun (S : Nat → Step) (n : Nat) : VR := vwalk S n VS.init 0 ⟨0, []⟩
def verify (S : Nat → Step) (n : Nat) : (Int × Int) × B :=
 if (check S n).1 ≠ 0 then (check S n, bnil) else if (vrun S n).1.1 ≠ 0 then ((vrun S n).1, bnil) else ((0, -1), outOf (vrun S n).2.ends)
def WOk (w : Wh) : Prop := (w.kind = 0 ∨ w.kind = 1 ∨ w.kind = 2 ∨ w.kind = 3 ∨ w.kind = 4 ∨ w.kind = 5) ∧ w.b.Ok
def VSOk (s : VS) : Prop := (∀ r, WOk (s.regs r)) ∧ (∀ r, WOk (s.slots r))
theorem bnil_ok : bnil.Ok := by unfold bnil B.Ok In64; simp
theorem WOk.nil : WOk .nil := ⟨.inl rfl, bnil_ok⟩
theorem WOk.num {b : B} (h : b.Ok) : WOk (.num b) := ⟨.inr (.inl rfl), h⟩
theorem WOk.upd {f : Nat → Wh} (h : ∀ r, WOk (f r)) (i : Nat) {v : Wh} (hv : WOk v) : ∀ r, WOk (upd f i v r) := by
 intro r
 by_cases e : r = i
 ·subst e; rw [upd_same]; exact hv
 ·rw [upd_other e]; exact h r
theorem VSOk.setReg {s : VS} (h : VSOk s) (r : Int) {v : Wh} (hv : WOk v) : VSOk (s.setReg r v) := ⟨WOk.upd h.1 _ hv, h.2⟩
theorem VSOk.setReg' {s : VS} (h : VSOk s) (r : Nat) {v : Wh} (hv : WOk v) : VSOk { s with regs := P.upd s.regs r v } := ⟨WOk.upd h.1 _ hv, h.2⟩
theorem VSOk.setSlot {s : VS} (h : VSOk s) (r : Nat) {v : Wh} (hv : WOk v) : VSOk { s with slots := P.upd s.slots r v } := ⟨h.1, WOk.upd h.2 _ hv⟩
theorem in64_0 : In64 0 := by unfold In64; omega
theorem VSOk.init : VSOk VS.init := by
 refine ⟨fun r => ?_, fun s => WOk.nil⟩
 unfold VS.init
 simp only
 split
 ·exact ⟨by simp, bone_ok in64_0⟩
 split
 ·exact ⟨by simp, bone_ok in64_0⟩
 ·exact WOk.nil
end Go.Proofs.YtpdlmbbgioenoaaGreatDoor.P
namespace Go.Proofs.YtpdlmbbgioenoaaGreatDoor.P
open Go.RowKit (wrap64)
theorem div_in {a b : Int} (ha : In64 a) (h0 : 0 ≤ a) (hb : 0 < b) : In64 (a / b) := by
 have h1 := Int.ediv_nonneg h0 (Int.le_of_lt hb)
 have h2 := Int.ediv_le_self b h0
 unfold In64 at *; omega
theorem min_in {a b : Int} (ha : In64 a) (hb : In64 b) : In64 (min a b) := by unfold In64 at *; omega
theorem max_in {a b : Int} (ha : In64 a) (hb : In64 b) : In64 (max a b) := by unfold In64 at *; omega
theorem bjoin_in {a b : B} (ha : a.In) (hb : b.In) : (bjoin a b).In := ⟨min_in ha.1 hb.1, max_in ha.2 hb.2⟩
theorem bone_in {n : Int} (h : In64 n) : (bone n).In := ⟨h, h⟩
theorem small_of {n : Int} (h : small n = true) : -2147483648 ≤ n ∧ n ≤ 2147483648 := by unfold small at h; simpa using h
theorem btimes_in (a b : B) : (btimes a b).In := by
 unfold btimes
 split
 ·rename_i h
  simp only [Bool.and_eq_true] at h
  obtain ⟨⟨⟨h1, h2⟩, h3⟩, h4⟩ := h
  have h1 := small_of h1; have h2 := small_of h2; have h3 := small_of h3; have h4 := small_of h4
  exact bjoin_in (bjoin_in (bjoin_in (bone_in (small_prod h1.1 h1.2 h3.1 h3.2)) (bone_in (small_prod h1.1 h1.2 h4.1 h4.2))) (bone_in (small_prod h2.1 h2.2 h3.1 h3.2))) (bone_in (small_prod h2.1 h2.2 h4.1 h4.2))
 ·exact ball_in
theorem bdoes_in {c : Int} {a b : B} (ha : a.Ok) (hb : b.Ok) : (bdoes c a b).In := by
 unfold bdoes
 split
 ·exact hb.in
 split
 ·rw [badd_eq ha.in hb.in]; split
  ·assumption
  ·exact ball_in
 split
 ·rw [bsub_eq ha.in hb.in]; split
  ·assumption
  ·exact ball_in
 split
 ·exact btimes_in a b
 split
 ·unfold bdiv
  split
  ·exact ball_in
  split
  ·exact ⟨in64_zero, ha.2.1⟩
  have := ha.2.2; have := hb.2.2
  split
  ·exact ⟨div_in ha.1 (by omega) (by omega), div_in ha.2.1 (by omega) (by omega)⟩
  ·refine ⟨in64_zero, min_in ha.2.1 ?_⟩
   have := hb.2.1; unfold In64 at *; omega
 split
 ·unfold bbit
  split
  ·exact ⟨in64_zero, min_in ha.2.1 hb.2.1⟩
  split
  ·exact ⟨in64_zero, ha.2.1⟩
  split
  ·exact ⟨in64_zero, hb.2.1⟩
  split
  ·exact ball_in
  split
  ·exact ⟨max_in ha.1 hb.1, fill_in (max_in ha.2.1 hb.2.1)⟩
  ·exact ⟨in64_zero, fill_in (max_in ha.2.1 hb.2.1)⟩
 split
 ·split
  ·exact ball_in
  ·unfold bleft; split
   ·exact ball_in
   ·exact ⟨in64_wrap _, in64_wrap _⟩
 split
 ·unfold bright
  split
  ·split
   ·exact ⟨in64_zero, ha.2.1⟩
   ·exact ball_in
  split
  ·exact ha.in
  split
  ·exact ⟨in64_shr ha.1 _, in64_shr ha.2.1 _⟩
  ·exact ⟨in64_zero, in64_shr (by unfold In64; omega) _⟩
 split
 ·unfold bsigned
  split
  ·exact ⟨in64_shr ha.1 _, in64_shr ha.2.1 _⟩
  split
  ·exact ⟨in64_zero, ha.2.1⟩
  split
  ·exact ⟨ha.1, by unfold In64; simp⟩
  ·exact ha.in
 split
 ·split
  ·exact ball_in
  ·rename_i h
   obtain ⟨h1, h2, h3⟩ := ha
   refine ⟨?_, ?_⟩ <;> unfold In64 at * <;> simp only <;> omega
 ·exact ball_in
theorem bdoes_ok {c : Int} {a b : B} (ha : a.Ok) (hb : b.Ok) : (bdoes c a b).Ok := by
 have h := bdoes_sound (c := c) ha hb ⟨Int.le_refl a.lo, ha.2.2⟩ ⟨Int.le_refl b.lo, hb.2.2⟩
 have hi := bdoes_in (c := c) ha hb
 exact ⟨hi.1, hi.2, Int.le_trans h.1 h.2⟩
theorem bnarrow_ok {c : Int} {a b : B} (ha : a.Ok) (hb : b.Ok) (h : (bnarrow c a b).2.2 = true) : (bnarrow c a b).1.Ok ∧ (bnarrow c a b).2.1.Ok :=
 ⟨(bnarrow_le ha hb h).1.ok ha, (bnarrow_le ha hb h).2.ok hb⟩
theorem bjoin_self {a : B} : bjoin a a = a := by unfold bjoin; rw [Int.min_self, Int.max_self]
theorem vfar_ok {w : Wh} (h : WOk w) {o : Int} (ho : In64 o) : (vfar w o).1.Ok := by
 unfold vfar
 repeat' split
 all_goals first | exact bnil_ok | exact bdoes_ok h.2 (bone_ok ho)
theorem vfar_kind {w : Wh} {o : Int} (hk : WOk w) (h : (vfar w o).2 = 0) : w.kind = 2 ∨ w.kind = 3 ∨ w.kind = 4 := by
 unfold vfar at h
 have := hk.1
 split at h
 ·simp at h
 split at h
 ·simp at h
 ·omega
theorem vfar_at {w : Wh} {o : Int} (hk : WOk w) (h : (vfar w o).2 = 0) : (vfar w o).1 = bdoes 2 w.b (bone o) ∧ low w.kind ≤ (vfar w o).1.lo ∧ (vfar w o).1.hi ≤ high w.kind := by
 have h1 := vfar_kind hk h
 unfold vfar at *
 rw [if_neg (by omega), if_neg (by omega)] at *
 split at h
 ·simp at h
 ·rename_i h2
  rw [if_neg h2]
  refine ⟨rfl, ?_, ?_⟩ <;> simp only <;> omega
theorem vany_ok {sl : Nat → Wh} (h : ∀ r, WOk (sl r)) : ∀ (n k : Nat) (acc : B), acc.Ok → WOk (vany sl n k acc).1
 | 0, _, acc, ha => WOk.num ha
 | n + 1, k, acc, ha => by
  unfold vany
  split
  ·exact WOk.nil
  split
  ·exact WOk.nil
  ·exact vany_ok h n (k + 1) _ (bjoin_ok ha (h k).2)
theorem VSOk.load {s : VS} (h : VSOk s) {w : Wh} (hw : WOk w) (o : Int) : WOk (s.load w o).1 := by
 unfold VS.load
 split
 ·exact WOk.nil
 split
 ·exact WOk.num ball_ok
 split
 ·split
  ·exact WOk.nil
  ·exact h.2 _
 ·exact vany_ok h.2 _ _ _ (h.2 _).2
theorem VSOk.store {s : VS} (h : VSOk s) (w : Wh) (o : Int) {x : Wh} (hx : WOk x) : VSOk (s.store w o x).1 := by
 unfold VS.store
 repeat' split
 all_goals first | exact h | exact h.setSlot _ hx
theorem VSOk.second {s : VS} (h : VSOk s) {t : Step} (ht : In64 t.num) : WOk (s.second t) := by
 unfold VS.second
 split
 ·exact h.1 _
 ·exact WOk.num (bone_ok ht)
theorem VSOk.operand {s : VS} (h : VSOk s) {t : Step} (ht : In64 t.num) : WOk (s.operand t) := by
 unfold VS.operand
 split
 ·exact WOk.num (bone_ok in64_zero)
 ·exact h.second ht
theorem wshift_ok {c : Int} {a b : Wh} (ha : WOk a) (hb : WOk b) : WOk (wshift c a b).1 := by
 unfold wshift
 split
 ·exact WOk.nil
 split
 ·exact WOk.nil
 ·exact ⟨ha.1, bdoes_ok ha.2 hb.2⟩
theorem wcounts_ok {c : Int} {a b : Wh} (ha : WOk a) (hb : WOk b) : WOk (wcounts c a b).1 := by
 unfold wcounts
 split
 ·exact WOk.nil
 split
 ·exact hb
 split
 ·exact WOk.num (bdoes_ok ha.2 hb.2)
 split
 ·exact wshift_ok hb ha
 ·exact wshift_ok ha hb
theorem VSOk.call {s : VS} (h : VSOk s) (n : Int) : VSOk (s.call n).1 := by
 unfold VS.call
 split
 ·exact h
 split
 ·exact h
 refine ⟨fun r => ?_, h.2⟩
 simp only
 split
 ·split
  ·exact ⟨by simp, bone_ok in64_zero⟩
  split
  ·exact WOk.num (bone_ok in64_zero)
  ·exact WOk.num ball_ok
 split
 ·exact WOk.nil
 ·exact h.1 r
theorem VSOk.narrowed {s : VS} (h : VSOk s) (t : Step) {x y : B} (hx : x.Ok) (hy : y.Ok) : VSOk (s.narrowed t x y) := by
 unfold VS.narrowed
 split
 ·split
  ·exact h
  ·exact ⟨WOk.upd (WOk.upd h.1 _ (show WOk ⟨(s.regs t.src.toNat).kind, y⟩ from ⟨(h.1 _).1, hy⟩)) _ (show WOk ⟨(s.regs t.dst.toNat).kind, x⟩ from ⟨(h.1 _).1, hx⟩), h.2⟩
 ·exact ⟨WOk.upd h.1 _ (show WOk ⟨(s.regs t.dst.toNat).kind, x⟩ from ⟨(h.1 _).1, hx⟩), h.2⟩
theorem VS.way_some {s : VS} {t : Step} {c nx : Int} {y : VS × Int} (h : s.way t c nx = some y) : (bnarrow c (s.regs t.dst.toNat).b (s.second t).b).2.2 = true ∧ y = (s.narrowed t (bnarrow c (s.regs t.dst.toNat).b (s.second t).b).1 (bnarrow c (s.regs t.dst.toNat).b (s.second t).b).2.1, nx) := by
 unfold VS.way at h
 split at h
 ·rename_i h1; exact ⟨h1, (Option.some.inj h).symm⟩
 ·simp at h
theorem VSOk.way {s : VS} (h : VSOk s) {t : Step} (ht : In64 t.num) {c nx : Int} {y : VS × Int} (hy : s.way t c nx = some y) : VSOk y.1 ∧ y.2 = nx := by
 obtain ⟨h1, rfl⟩ := VS.way_some hy
 have := bnarrow_ok (h.1 t.dst.toNat).2 (h.second ht).2 h1
 exact ⟨h.narrowed t this.1 this.2, rfl⟩
theorem VS.way_one {s : VS} (h : VSOk s) {t : Step} (ht : In64 t.num) (hc : P.asks t.code = true) (n m : Int) : s.way t (opp t.code) n ≠ none ∨ s.way t t.code m ≠ none := by
 have ha := (h.1 t.dst.toNat).2
 have hb := (h.second ht).2
 have x1 : (s.regs t.dst.toNat).b.Has (s.regs t.dst.toNat).b.lo := ⟨Int.le_refl _, ha.2.2⟩
 have x2 : (s.second t).b.Has (s.second t).b.lo := ⟨Int.le_refl _, hb.2.2⟩
 by_cases hi : P.is t.code (s.regs t.dst.toNat).b.lo (s.second t).b.lo = true
 ·right
  unfold VS.way
  rw [if_pos (bnarrow_sound ha hb x1 x2 hi).1]
  simp
 ·left
  unfold VS.way
  rw [if_pos (bnarrow_sound ha hb x1 x2 (by rw [opp_is hc]; simpa using hi)).1]
  simp
def LeadsOn (n : Nat) (pc : Int) (x : Option (VS × Int)) : Prop := ∀ y, x = some y → VSOk y.1 ∧ pc < y.2 ∧ y.2 < n
theorem LeadsOn.none {n : Nat} {pc : Int} : LeadsOn n pc none := fun y h => by simp at h
theorem LeadsOn.some {n : Nat} {pc nx : Int} {s : VS} (h : VSOk s) (h1 : pc < nx) (h2 : nx < n) : LeadsOn n pc (some (s, nx)) := fun y h => by
 obtain rfl := Option.some.inj h
 exact ⟨‹_›, h1, h2⟩
def StepOk (n : Nat) (pc : Int) (t : Step) : Prop := (t.code = 28 ∨ pc + 1 < n) ∧ (t.leads → 0 ≤ t.off ∧ t.off < (n : Int) - 1 - pc) ∧ In64 t.num
theorem asks_ways {s : VS} (h : VSOk s) {t : Step} {n : Nat} {pc : Int} (ht : StepOk n pc t) (hc : 15 ≤ t.code ∧ t.code ≤ 24) {x y : Option (VS × Int)} (hs : s.asks t pc = .go x y) : LeadsOn n pc x ∧ LeadsOn n pc y ∧ (x ≠ none ∨ y ≠ none) := by
 obtain ⟨h1, h2, h3⟩ := ht
 have hl := h2 (.inr hc)
 have hn : pc + 1 < n := by omega
 have ho : pc + 1 + t.off < n := by omega
 unfold VS.asks at hs
 split at hs
 ·cases hs
 split at hs
 ·have hw := VS.way_one h h3 (by simp [P.asks, hc]) (pc + 1) (pc + 1 + t.off)
  injection hs with e1 e2
  subst e1; subst e2
  refine ⟨fun y hy => ?_, fun y hy => ?_, hw⟩
  ·obtain ⟨a, b⟩ := h.way h3 hy; exact ⟨a, by omega, by omega⟩
  ·obtain ⟨a, b⟩ := h.way h3 hy; exact ⟨a, by omega, by omega⟩
 split at hs
 ·cases hs
 ·simp only at hs
  split at hs
  ·injection hs with e1 e2
   subst e1; subst e2
   refine ⟨LeadsOn.some (h.setReg _ (WOk.num (bone_ok in64_zero))) ?_ ?_, LeadsOn.some (h.setReg _ ⟨by simp, bone_ok in64_zero⟩) ?_ ?_, .inl (by simp)⟩ <;> (split <;> omega)
  ·injection hs with e1 e2
   subst e1; subst e2
   refine ⟨LeadsOn.some h ?_ ?_, LeadsOn.none, .inl (by simp)⟩ <;> (split <;> omega)
theorem step_ways {s : VS} (h : VSOk s) {t : Step} {n : Nat} {pc : Int} (ht : StepOk n pc t) {x y : Option (VS × Int)} (hs : s.step t pc = .go x y) : LeadsOn n pc x ∧ LeadsOn n pc y ∧ (x ≠ none ∨ y ≠ none) := by
 have ht' := ht
 obtain ⟨h1, h2, h3⟩ := ht
 unfold VS.step at hs
 split at hs
 ·repeat' split at hs
  all_goals cases hs
 rename_i h28
 have hn : pc + 1 < n := by omega
 split at hs
 ·rename_i h14
  have hl := h2 (.inl h14)
  injection hs with e1 e2; subst e1; subst e2
  exact ⟨LeadsOn.some h (by omega) (by omega), LeadsOn.none, .inl (by simp)⟩
 split at hs
 ·exact asks_ways h ht' (by assumption) hs
 split at hs
 ·split at hs
  ·cases hs
  ·injection hs with e1 e2; subst e1; subst e2
   exact ⟨LeadsOn.some (h.setReg _ (h.load (h.1 _) _)) (by omega) hn, LeadsOn.none, .inl (by simp)⟩
 split at hs
 ·split at hs
  ·cases hs
  ·injection hs with e1 e2; subst e1; subst e2
   exact ⟨LeadsOn.some (h.store _ _ (h.second h3)) (by omega) hn, LeadsOn.none, .inl (by simp)⟩
 split at hs
 ·split at hs
  ·cases hs
  ·injection hs with e1 e2; subst e1; subst e2
   exact ⟨LeadsOn.some (h.call _) (by omega) hn, LeadsOn.none, .inl (by simp)⟩
 ·split at hs
  ·cases hs
  ·injection hs with e1 e2; subst e1; subst e2
   exact ⟨LeadsOn.some (h.setReg _ (wcounts_ok (h.1 _) (h.operand h3))) (by omega) hn, LeadsOn.none, .inl (by simp)⟩
theorem step_done {s : VS} (h : VSOk s) {t : Step} {pc : Int} {b : B} (hs : s.step t pc = .done b) : b.Ok := by
 unfold VS.step VS.asks at hs
 split at hs
 ·split at hs
  ·injection hs with e; rw [← e]; exact (h.1 0).2
  ·split at hs <;> cases hs
 ·simp only at hs
  repeat' split at hs
  all_goals cases hs
end Go.Proofs.YtpdlmbbgioenoaaGreatDoor.P
namespace Go.Proofs.YtpdlmbbgioenoaaGreatDoor.P
open Go.RowKit (wrap64)
theorem outOf_snoc (l : List B) (b : B) : outOf (l ++ [b]) = if l = [] then b else bjoin (outOf l) b := by
 cases l with
 | nil => rfl
 | cons x l => simp [outOf, List.foldl_append]
structure Keeps (w : Wk) (r : VR) : Prop where
 ok : (∀ b ∈ w.ends, b.Ok) → ∀ b ∈ r.2.ends, b.Ok
 more : ∃ l, r.2.ends = w.ends ++ l ∧ (r.1.1 = 0 → l ≠ [])
 looks : w.looks ≤ r.2.looks
 place : r.1.1 = 0 → r.1.2 = -1
theorem Keeps.looked {w : Wk} {r : VR} (h : Keeps ⟨w.looks + 1, w.ends⟩ r) : Keeps w r := ⟨h.ok, h.more, by have := h.looks; simp only at this; omega, h.place⟩
theorem Keeps.trans {w : Wk} {r r' : VR} (h : Keeps w r) (k : Keeps r.2 r') : Keeps w r' := by
 refine ⟨fun hw => k.ok (h.ok hw), ?_, Int.le_trans h.looks k.looks, k.place⟩
 obtain ⟨l, e, h1⟩ := h.more
 obtain ⟨l', e', h2⟩ := k.more
 refine ⟨l ++ l', by rw [e', e, List.append_assoc], fun h0 => ?_⟩
 have := h2 h0
 simp [this]
theorem keeps_ways {f : VS → Int → Wk → VR} {pc : Int} {w : Wk} {x y : Option (VS × Int)} (hx : ∀ z, x = some z → ∀ w, Keeps w (f z.1 z.2 w)) (hy : ∀ z, y = some z → ∀ w, Keeps w (f z.1 z.2 w)) (h : x ≠ none ∨ y ≠ none) : Keeps w (waysOf f pc w (.go x y)) := by
 show Keeps w (thenOf (wayOf f x w) (wayOf f y))
 unfold thenOf wayOf
 cases x with
 | none =>
  cases y with
  | none => simp at h
  | some b => simp only; rw [if_neg (by simp)]; exact hy b rfl w
 | some a =>
  simp only
  split
  ·exact hx a rfl w
  ·rename_i h0
   cases y with
   | none =>
    have h0 : (f a.1 a.2 w).1.1 = 0 := by simpa using h0
    have k := hx a rfl w
    refine ⟨k.ok, ?_, k.looks, fun _ => rfl⟩
    obtain ⟨l, e, h1⟩ := k.more
    exact ⟨l, e, fun _ => h1 h0⟩
   | some b => exact (hx a rfl w).trans (hy b rfl _)
theorem vwalk_succ (S : Nat → Step) (k : Nat) (s : VS) (pc : Int) (w : Wk) : vwalk S (k + 1) s pc w =
  if 4000 < w.looks + 1 then ((4, pc), ⟨w.looks + 1, w.ends⟩) else waysOf (vwalk S k) pc ⟨w.looks + 1, w.ends⟩ (s.step (S pc.toNat) pc) := rfl
theorem step_err {s : VS} {t : Step} {pc e : Int} (hs : s.step t pc = .err e) : e ≠ 0 := by
 unfold VS.step VS.asks at hs
 repeat' split at hs
 all_goals first | (injection hs with e1; rw [← e1]; first | assumption | decide) | cases hs | (simp only at hs; split at hs <;> cases hs)
theorem vwalk_keeps {S : Nat → Step} {n : Nat} (hS : ∀ j, j < n → StepOk n j (S j)) : ∀ (k : Nat) (s : VS) (pc : Int) (w : Wk), VSOk s → 0 ≤ pc → pc < n → n ≤ pc + k → Keeps w (vwalk S k s pc w)
 | 0, s, pc, w, _, h0, h1, h2 => by omega
 | k + 1, s, pc, w, hs, h0, h1, h2 => by
  rw [vwalk_succ]
  split
  ·exact ⟨fun h => h, ⟨[], by simp, fun h => by simp at h⟩, by simp only; omega, fun h => by simp at h⟩
  ·refine Keeps.looked ?_
   have ht : StepOk n pc (S pc.toNat) := by have := hS pc.toNat (by omega); rwa [Int.toNat_of_nonneg h0] at this
   cases hr : s.step (S pc.toNat) pc with
   | done b =>
    have hb := step_done hs hr
    refine ⟨fun h c hc => ?_, ⟨[b], rfl, fun _ => by simp⟩, Int.le_refl _, fun _ => rfl⟩
    simp only [waysOf, List.mem_append, List.mem_singleton] at hc
    rcases hc with hc | rfl
    ·exact h c hc
    ·exact hb
   | err e => exact ⟨fun h => h, ⟨[], by simp [waysOf], fun h => absurd h (step_err hr)⟩, Int.le_refl _, fun h => absurd h (step_err hr)⟩
   | go x y =>
    obtain ⟨hx, hy, hxy⟩ := step_ways hs ht hr
    refine keeps_ways (fun z hz w => ?_) (fun z hz w => ?_) hxy
    ·obtain ⟨a, b, c⟩ := hx z hz
     exact vwalk_keeps hS k z.1 z.2 w a (by omega) c (by omega)
    ·obtain ⟨a, b, c⟩ := hy z hz
     exact vwalk_keeps hS k z.1 z.2 w a (by omega) c (by omega)
theorem wayOf_looks {f : VS → Int → Wk → VR} (hf : ∀ s pc w, w.looks ≤ 4000 → (f s pc w).1.1 = 0 → (f s pc w).2.looks ≤ 4000) (o : Option (VS × Int)) (w : Wk) (h : w.looks ≤ 4000) (h0 : (wayOf f o w).1.1 = 0) : (wayOf f o w).2.looks ≤ 4000 := by
 cases o with
 | none => exact h
 | some a => exact hf _ _ _ h h0
theorem vwalk_looks {S : Nat → Step} : ∀ (k : Nat) (s : VS) (pc : Int) (w : Wk), w.looks ≤ 4000 → (vwalk S k s pc w).1.1 = 0 → (vwalk S k s pc w).2.looks ≤ 4000
 | 0, s, pc, w, h, _ => h
 | k + 1, s, pc, w, h, h0 => by
  rw [vwalk_succ] at h0 ⊢
  by_cases hl : 4000 < w.looks + 1
  ·rw [if_pos hl] at h0; simp at h0
  rw [if_neg hl] at h0 ⊢
  cases hr : s.step (S pc.toNat) pc with
  | done b => show w.looks + 1 ≤ 4000; omega
  | err e => show w.looks + 1 ≤ 4000; omega
  | go x y =>
   rw [hr] at h0
   show (thenOf (wayOf (vwalk S k) x ⟨w.looks + 1, w.ends⟩) (wayOf (vwalk S k) y)).2.looks ≤ 4000
   have h0' : (thenOf (wayOf (vwalk S k) x ⟨w.looks + 1, w.ends⟩) (wayOf (vwalk S k) y)).1.1 = 0 := h0
   unfold thenOf at h0' ⊢
   split at h0'
   ·rename_i h1; exact absurd h0' h1
   ·rename_i h1
    rw [if_neg h1]
    have e1 : (wayOf (vwalk S k) x ⟨w.looks + 1, w.ends⟩).1.1 = 0 := by simpa using h1
    exact wayOf_looks (vwalk_looks k) y _ (wayOf_looks (vwalk_looks k) x _ (by show w.looks + 1 ≤ 4000; omega) e1) h0'
theorem ways_first {f : VS → Int → Wk → VR} {pc : Int} {w : Wk} {s : VS} {n : Int} {y : Option (VS × Int)} (h : (f s n w).1.1 ≠ 0) : waysOf f pc w (.go (some (s, n)) y) = f s n w := if_pos h
theorem ways_second {f : VS → Int → Wk → VR} {pc : Int} {w : Wk} {s t : VS} {n m : Int} (h : (f s n w).1.1 = 0) : waysOf f pc w (.go (some (s, n)) (some (t, m))) = f t m (f s n w).2 := if_neg (by show ¬ (f s n w).1.1 ≠ 0; simp [h])
theorem ways_one {f : VS → Int → Wk → VR} {pc : Int} {w : Wk} {s : VS} {n : Int} (h : (f s n w).1.1 = 0 → (f s n w).1.2 = -1) : waysOf f pc w (.go (some (s, n)) none) = f s n w := by
 by_cases h0 : (f s n w).1.1 = 0
 ·show thenOf (f s n w) (wayOf f none) = f s n w
  unfold thenOf
  rw [if_neg (by simp [h0])]
  show ((0, -1), (f s n w).2) = f s n w
  have h1 := h h0
  generalize f s n w = r at h0 h1
  obtain ⟨⟨e, p⟩, k⟩ := r
  have h0 : e = 0 := h0
  have h1 : p = -1 := h1
  rw [h0, h1]
 ·exact ways_first h0
theorem stepOk_of {S : Nat → Step} {n j : Nat} (hj : j < n) (h : at_ S n j = 0) (hn : In64 (S j).num) : StepOk n j (S j) := by
 obtain ⟨h1, h2, h3⟩ := at_ok h
 refine ⟨?_, h2, hn⟩
 by_cases e : j + 1 = n
 ·exact .inl (h3 e)
 ·exact .inr (by omega)
structure ProgOk (S : Nat → Step) (n : Nat) : Prop where
 step : ∀ j, j < n → StepOk n j (S j)
 wrong : ∀ j, j < n → (S j).wrong = 0
 off : ∀ j, j < n → In64 (S j).off
theorem call_num {c d s : Int} {r : Bool} {o n : Int} (h : ¬ bad c d s r o n) (hc : c = 27) : 1 ≤ n ∧ n ≤ 3 := by
 unfold bad at h; omega
end Go.Proofs.YtpdlmbbgioenoaaGreatDoor.P
namespace Go.Proofs.YtpdlmbbgioenoaaGreatDoor.P
open Go.RowKit
def wcell (w : Wh) (k : Nat) : Value := .int .i64 (if k = 0 then w.kind else if k = 1 then w.b.lo else w.b.hi)
theorem wcell_0 (v : Wh) : wcell v 0 = .int .i64 v.kind := rfl
theorem wcell_1 (v : Wh) : wcell v 1 = .int .i64 v.b.lo := rfl
theorem wcell_2 (v : Wh) : wcell v 2 = .int .i64 v.b.hi := rfl
def simg (c : Wh → Nat → Value) (s : VS) : Nat → Value := fun j => if j < 33 then c (s.regs (j / 3)) (j % 3) else c (s.slots ((j - 33) / 3)) ((j - 33) % 3)
def scells (c : Wh → Nat → Value) (s : VS) : List Value := (List.range 81).map (simg c s)
theorem scells_length (c : Wh → Nat → Value) (s : VS) : (scells c s).length = 81 := by simp [scells]
theorem scells_at {c : Wh → Nat → Value} {s : VS} {j : Nat} (h : j < 81) : (scells c s)[j]? = some (simg c s j) := by simp [scells, h]
variable {c : Wh → Nat → Value} {s : VS}
theorem simg_reg {r k j : Nat} (hr : r < 11) (hk : k < 3) (hj : j = r * 3 + k) : simg c s j = c (s.regs r) k := by
 subst hj; unfold simg
 rw [if_pos (by omega), show (r * 3 + k) / 3 = r by omega, show (r * 3 + k) % 3 = k by omega]
theorem simg_slot {r k j : Nat} (hr : r < 16) (hk : k < 3) (hj : j = 33 + r * 3 + k) : simg c s j = c (s.slots r) k := by
 subst hj; unfold simg
 rw [if_neg (by omega), show (33 + r * 3 + k - 33) / 3 = r by omega, show (33 + r * 3 + k - 33) % 3 = k by omega]
theorem simg_setreg {r : Nat} (hr : r < 11) (v : Wh) : ∀ j, j < 81 → upd (upd (upd (simg c s) (r * 3) (c v 0)) (r * 3 + 1) (c v 1)) (r * 3 + 2) (c v 2) j = simg c { s with regs := upd s.regs r v } j := by
 intro j hj
 by_cases h2 : j = r * 3 + 2
 ·rw [simg_reg hr (by omega : 2 < 3) h2, h2, upd_same]; simp [upd_same]
 by_cases h1 : j = r * 3 + 1
 ·rw [simg_reg hr (by omega : 1 < 3) h1, upd_other h2, h1, upd_same]; simp [upd_same]
 by_cases h0 : j = r * 3
 ·rw [simg_reg hr (by omega : 0 < 3) (by omega), upd_other h2, upd_other h1, h0, upd_same]; simp [upd_same]
 rw [upd_other h2, upd_other h1, upd_other h0]
 unfold simg
 simp only
 split
 ·rw [upd_other (by omega)]
 ·rfl
theorem simg_setslot {r : Nat} (hr : r < 16) (v : Wh) : ∀ j, j < 81 → upd (upd (upd (simg c s) (33 + r * 3) (c v 0)) (33 + r * 3 + 1) (c v 1)) (33 + r * 3 + 2) (c v 2) j = simg c { s with slots := upd s.slots r v } j := by
 intro j hj
 by_cases h2 : j = 33 + r * 3 + 2
 ·rw [simg_slot hr (by omega : 2 < 3) h2, h2, upd_same]; simp [upd_same]
 by_cases h1 : j = 33 + r * 3 + 1
 ·rw [simg_slot hr (by omega : 1 < 3) h1, upd_other h2, h1, upd_same]; simp [upd_same]
 by_cases h0 : j = 33 + r * 3
 ·rw [simg_slot hr (by omega : 0 < 3) (by omega), upd_other h2, upd_other h1, h0, upd_same]; simp [upd_same]
 rw [upd_other h2, upd_other h1, upd_other h0]
 unfold simg
 simp only
 split
 ·rfl
 ·rw [upd_other (by omega)]
theorem simg_setat {r : Nat} (hr : r < 11) (b : B) (hc : ∀ v, c v 0 = c ⟨v.kind, b⟩ 0) : ∀ j, j < 81 → upd (upd (simg c s) (r * 3 + 1) (c ⟨(s.regs r).kind, b⟩ 1)) (r * 3 + 2) (c ⟨(s.regs r).kind, b⟩ 2) j = simg c { s with regs := upd s.regs r ⟨(s.regs r).kind, b⟩ } j := by
 intro j hj
 rw [← simg_setreg hr ⟨(s.regs r).kind, b⟩ j hj]
 by_cases h2 : j = r * 3 + 2
 ·rw [h2, upd_same, upd_same]
 by_cases h1 : j = r * 3 + 1
 ·rw [upd_other h2, upd_other h2, h1, upd_same, upd_same]
 rw [upd_other h2, upd_other h2, upd_other h1, upd_other h1]
 by_cases h0 : j = r * 3
 ·rw [h0, upd_same, simg_reg hr (by omega : 0 < 3) (by omega)]; exact hc _
 ·rw [upd_other h0]
theorem Img.scells {w : World} {b : Nat} (h : Img w b 81 (simg c s)) : w.rangeAt b 0 (P.scells c s) := by
 intro j v hv
 have hj : j < 81 := by have := (List.getElem?_eq_some_iff.1 hv).1; rwa [scells_length] at this
 rw [scells_at hj] at hv
 rw [Nat.zero_add, h.cell j hj, hv]
theorem Img.snew {w : World} {t : TypeId} : Img (w.alloc (.cells (P.scells c s).toArray t (0, 0))) w.heap.size 81 (simg c s) := by
 refine Img.of_cells (heap_alloc_new w _) (by rw [List.size_toArray, scells_length]) fun j hj => ?_
 rw [List.getElem?_toArray, scells_at hj]
end Go.Proofs.YtpdlmbbgioenoaaGreatDoor.P
namespace Go.Proofs.YtpdlmbbgioenoaaGreatDoor.W
open Go.RowKit Go.Proofs.YtpdlmbbgioenoaaGreatDoor.P
def timg (t : Step) : Nat → Value := fun j => if j = 0 then .int .i64 t.code else if j = 1 then .int .i64 t.dst else if j = 2 then .int .i64 t.src else if j = 3 then .bool t.reg else if j = 4 then .int .i64 t.off else .int .i64 t.num
theorem tcells {w : World} {b : Nat} {t : Step} (hI : P.Img w b 6 (timg t)) : w.cell? ⟨b, 0, none⟩ = some (.int .i64 t.code) ∧ w.cell? ⟨b, 1, none⟩ = some (.int .i64 t.dst) ∧ w.cell? ⟨b, 2, none⟩ = some (.int .i64 t.src) ∧ w.cell? ⟨b, 3, none⟩ = some (.bool t.reg) ∧ w.cell? ⟨b, 4, none⟩ = some (.int .i64 t.off) ∧ w.cell? ⟨b, 5, none⟩ = some (.int .i64 t.num) :=
 ⟨hI.cell 0 (by omega), hI.cell 1 (by omega), hI.cell 2 (by omega), hI.cell 3 (by omega), hI.cell 4 (by omega), hI.cell 5 (by omega)⟩
theorem Img.zero3 {w : World} {b : Nat} {t : TypeId} (h : w.heap[b]? = some (.cells #[.int .i64 0, .int .i64 0, .int .i64 0] t (0, 0))) : P.Img w b 3 (fun _ => .int .i64 0) := by
 refine Img.of_cells h (by rfl) fun j hj => ?_
 rcases j with _ | _ | _ | j
 ·rfl
 ·rfl
 ·rfl
 ·omega
theorem Cells.but {w w' : World} {a : Addr} {S : Nat → Step} {n b : Nat} (h : Cells w a S n) (hb : But b w w') (hne : a.block ≠ b) : Cells w' a S n := by
 have hbl : ∀ i, (a.add i).block = a.block := fun i => by unfold Addr.add; split <;> rfl
 intro i hi
 obtain ⟨e0, e1, e2, e3, e4, e5⟩ := h i hi
 exact ⟨hb.cell e0 (by rw [hbl]; exact hne), hb.cell e1 (by simp only [hbl]; exact hne), hb.cell e2 (by simp only [hbl]; exact hne), hb.cell e3 (by simp only [hbl]; exact hne), hb.cell e4 (by simp only [hbl]; exact hne), hb.cell e5 (by simp only [hbl]; exact hne)⟩
theorem vthere_new {w : World} {c : Array Value} {t : TypeId} {n : Nat} (h : n = c.size) : (w.alloc (.cells c t (0, 0))).there w.heap.size 0 n := by
 subst h
 have I : P.Img (w.alloc (.cells c t (0, 0))) w.heap.size c.size (fun j => c.getD j undef) := Img.of_cells (heap_alloc_new w _) rfl fun j hj => by simp [hj]
 exact fun j hj => ⟨by rw [Nat.zero_add, I.cell j hj]; rfl, by rw [Nat.zero_add]; exact I.free j hj⟩
theorem but_new {b u : Nat} {w x y : World} (h : But b w x) (k : But u x y) (hu : w.heap.size ≤ u) : But b w y :=
 ⟨k.os.trans h.os, k.tape.trans h.tape, k.output.trans h.output, Nat.le_trans h.size k.size, fun i hi ne => (k.block i (Nat.lt_of_lt_of_le hi h.size) (by omega)).trans (h.block i hi ne)⟩
theorem vl_load {P : Program} {ops : Array Oper} {rest : List Oper} {op : Oper} {a : Act} {w : World} {Q : Exit → Act → World → Prop} (hw : Region.wanted op (yielded ops a.tmps) = true) (ty : TypeId) (x : Operand) (ho : op.op = .load ty x)
  (b o : Nat) (hx : a.eval x = .pointer (some ⟨b, o, none⟩)) (cs : List Value) (d : TypeDesc) (hc : w.rangeAt b o cs) (hu : P.underlying ty = some d) (hd : d.isRow = true) (hi : (P.info? ty).map (·.size) = some cs.length)
  (h : wpList P ops Q rest (a.put op.dst (.agg cs.toArray)) w) : wpList P ops Q (op :: rest) a w :=
 wpList_step fun _ hK => by
  rw [if_pos hw]
  exact wp_load_mid ty x ho b o hx cs d hc hu hd hi (hK _ _ h)
theorem from_zero {S : Nat → Step} {n : Nat} : ∀ (k i : Nat), (from_ S n i k).1 = 0 → from_ S n i k = (0, -1)
 | 0, i, _ => rfl
 | k + 1, i, h => by
  unfold from_ at h ⊢
  by_cases ha : at_ S n i = 0
  ·rw [if_neg (by simp [ha])] at h ⊢
   exact from_zero k (i + 1) h
  ·rw [if_pos ha] at h
   exact absurd h ha
def ProgAt (w : World) (oa : Option Addr) (S : Nat → Step) (n : Nat) : Prop := 0 < n → ∃ a, oa = some a ∧ Cells w a S n
theorem ProgAt.later {w w' : World} {oa : Option Addr} {S : Nat → Step} {n : Nat} (h : ProgAt w oa S n) (hb : Below w.heap.size w w') : ProgAt w' oa S n := fun hn => by
 obtain ⟨a, h1, h2⟩ := h hn
 exact ⟨a, h1, h2.later hb⟩
theorem rsetCells {b B : Nat} (hB : B ≤ b) : ∀ (vs : List Value) (o : Nat) (w x : World), Below B x w → Below B x (w.setCells b o vs)
 | [], _, _, _, h => h
 | v :: r, o, w, x, h => by rw [World.setCells]; exact rsetCells hB r (o + 1) _ _ (h.setCell hB v)
end Go.Proofs.YtpdlmbbgioenoaaGreatDoor.W
namespace Go.Proofs.YtpdlmbbgioenoaaGreatDoor.W
open Go.RowKit Go.Proofs.YtpdlmbbgioenoaaGreatDoor.P
set_option maxHeartbeats 400000 in
theorem VNumber_any (lo hi : Int) (w : World) :
  Calls Tryz.prog 112 #[.agg #[.int .i64 lo, .int .i64 hi]] w fun e w' => e = .returned (.agg #[.int .i64 1, .int .i64 lo, .int .i64 hi]) ∧ Below w.heap.size w w' := by
 have HW0 := Lib.hid (Below.refl w.heap.size w)
 go_enter Tryz.func112, Tryz.ntmps112
 go_wp2_with fail
 first
 | (go_ret; exact ⟨rfl, (by repeat' (first | with_reducible (first | exact HW0.out | apply bR | apply bD | apply bN | apply bA | apply bS) | (simp; done) | (simp; omega) | omega))⟩)
 | (refine bodyPost_ret (v := .agg #[.int .i64 1, .int .i64 lo, .int .i64 hi]) ?_ rfl ⟨rfl, (by repeat' (first | with_reducible (first | exact HW0.out | apply bR | apply bD | apply bN | apply bA | apply bS) | (simp; done) | (simp; omega) | omega))⟩; simp [results, Tryz.results112, go_sem])
set_option maxHeartbeats 400000 in
theorem At_any (er p : Int) (w : World) :
  Calls Tryz.prog 104 #[.int .i64 er, .int .i64 p] w fun e w' => e = .returned (.iface 145 (.pointer (some ⟨w.heap.size, 0, none⟩))) ∧ w'.cell? ⟨w.heap.size, 0, none⟩ = some (.int .i64 er) ∧ w'.cell? ⟨w.heap.size, 1, none⟩ = some (.int .i64 p) ∧ w.heap.size < w'.heap.size ∧ Below w.heap.size w w' := by
 have HW0 := Lib.hid (Below.refl w.heap.size w)
 go_enter Tryz.func104, Tryz.ntmps104
 go_wp2_with fail
 go_ret
 refine ⟨rfl, ?_, ?_, ?_, (by repeat' (first | with_reducible (first | exact HW0.out | apply bR | apply bD | apply bN | apply bA | apply bS) | (simp; done) | (simp; omega) | omega))⟩ <;> simp [go_sem]
set_option maxHeartbeats 400000 in
theorem Words_any (k : Int) (hk : k = 2 ∨ k = 3 ∨ k = 4) (w : World) :
  Calls Tryz.prog 187 #[.int .i64 k] w fun e w' => e = .returned (.tuple #[.int .i64 (low k), .int .i64 (high k)]) ∧ w = w' := by
 rcases hk with rfl | rfl | rfl
 all_goals
  go_enter Tryz.func187, Tryz.ntmps187
  go_wp2_with fail
  go_ret2
  exact ⟨rfl, rfl⟩
set_option maxHeartbeats 1000000 in
theorem VFar_no (k lo hi : Int) (o : Int) (hk : k = 0 ∨ k = 1 ∨ k = 5) (w : World) :
  Calls Tryz.prog 147 #[.agg #[.int .i64 k, .int .i64 lo, .int .i64 hi], .int .i64 o] w fun e w' => e = .returned (.tuple #[.agg #[.int .i64 0, .int .i64 0], .int .i64 (if k = 0 then 8 else 1)]) ∧ Below w.heap.size w w' := by
 have HW0 := Lib.hid (Below.refl w.heap.size w)
 rcases hk with rfl | rfl | rfl
 all_goals
  go_enter Tryz.func147, Tryz.ntmps147
  go_wp2_with fail
  refine bodyPost_ret (v := _) ?_ rfl ⟨rfl, (by repeat' (first | with_reducible (first | exact HW0.out | apply bR | apply bD | apply bN | apply bA | apply bS) | (simp; done) | (simp; omega) | omega))⟩
  simp [results, Tryz.results147, go_sem]
set_option maxHeartbeats 4000000 in
theorem VFar_place (k lo hi : Int) (o : Int) (hk : k = 2 ∨ k = 3 ∨ k = 4) (hb : B.Ok ⟨lo, hi⟩) (ho : In64 o) (w : World) :
  Calls Tryz.prog 147 #[.agg #[.int .i64 k, .int .i64 lo, .int .i64 hi], .int .i64 o] w fun e w' => e = .returned (.tuple #[.agg #[.int .i64 (vfar ⟨k, ⟨lo, hi⟩⟩ o).1.lo, .int .i64 (vfar ⟨k, ⟨lo, hi⟩⟩ o).1.hi], .int .i64 (vfar ⟨k, ⟨lo, hi⟩⟩ o).2]) ∧ Below w.heap.size w w' := by
 have HW0 := Lib.hid (Below.refl w.heap.size w)
 have c1 : ∀ wd dr os, Calls Tryz.prog 60 #[.int .i64 o] (Go.Sort.grow (redrawn wd dr) os) fun e w' => e = .returned (.agg #[.int .i64 o, .int .i64 o]) ∧ BelowAt (Go.Sort.grow (redrawn wd dr) os) w' := fun wd dr os => One_any o _
 have c2 : ∀ wd dr os, Calls Tryz.prog 149 #[.int .i64 2, .agg #[.int .i64 lo, .int .i64 hi], .agg #[.int .i64 o, .int .i64 o]] (Go.Sort.grow (redrawn wd dr) os) fun e w' => e = .returned (.agg #[.int .i64 (bdoes 2 ⟨lo, hi⟩ (bone o)).lo, .int .i64 (bdoes 2 ⟨lo, hi⟩ (bone o)).hi]) ∧ BelowAt (Go.Sort.grow (redrawn wd dr) os) w' := fun wd dr os => BDoes_any 2 lo hi o o hb.1 hb.2.1 ho ho hb.2.2 (Int.le_refl _) _
 have hv : vfar ⟨k, ⟨lo, hi⟩⟩ o = if (bdoes 2 ⟨lo, hi⟩ (bone o)).lo < low k ∨ high k < (bdoes 2 ⟨lo, hi⟩ (bone o)).hi then (bnil, 2) else (bdoes 2 ⟨lo, hi⟩ (bone o), 0) := by
  unfold vfar; rw [if_neg (by simp only; omega), if_neg (by simp only; omega)]
 rw [hv]
 clear hv
 generalize bdoes 2 ⟨lo, hi⟩ (bone o) = d at *
 obtain ⟨dl, dh⟩ := d
 simp only at c2 ⊢
 have CW := Lib.hid (fun w => Words_any k hk w)
 have C1 := Lib.hid c1
 have C2 := Lib.hid c2
 have HO := Lib.hid ho
 have HBB := Lib.hid hb
 have t0 : (k == 0) = false := by rw [beq_eq_false_iff_ne]; omega
 have t1 : (k == 1) = false := by rw [beq_eq_false_iff_ne]; omega
 have t5 : (k == 5) = false := by rw [beq_eq_false_iff_ne]; omega
 generalize low k = L at *
 generalize high k = H at *
 clear c1 c2 ho hb hk
 go_enter Tryz.func147, Tryz.ntmps147
 go_wp2_with fail
 generalize hW : World.alloc (World.alloc w _) _ = wd
 have f0 : wd.cell? ⟨w.heap.size, 0, none⟩ = some (.int .i64 k) := by rw [← hW]; simp [go_sem]
 have f1 : wd.cell? ⟨w.heap.size, 1, none⟩ = some (.int .i64 lo) := by rw [← hW]; simp [go_sem]
 have f2 : wd.cell? ⟨w.heap.size, 2, none⟩ = some (.int .i64 hi) := by rw [← hW]; simp [go_sem]
 have g0 : wd.cell? ⟨w.heap.size + 1, 0, none⟩ = some (.int .i64 0) := by rw [← hW]; simp [go_sem]
 have g1 : wd.cell? ⟨w.heap.size + 1, 1, none⟩ = some (.int .i64 0) := by rw [← hW]; simp [go_sem]
 have g2 : wd.frozen? ⟨w.heap.size + 1, 0, none⟩ = false := by rw [← hW]; simp [go_sem]
 have g3 : wd.frozen? ⟨w.heap.size + 1, 1, none⟩ = false := by rw [← hW]; simp [go_sem]
 have HB1 := Lib.hid (show Below w.heap.size w wd from hW ▸ (by repeat' (first | with_reducible (first | exact HW0.out | apply bR | apply bD | apply bN | apply bA | apply bS) | (simp; done) | (simp; omega) | omega)))
 have zd : w.heap.size + 1 < wd.heap.size := by rw [← hW]; simp
 clear hW
 have k0 := cell_regrown f0; have k1 := cell_regrown f1; have k2 := cell_regrown f2
 refine wp_calm_tail1 6 5 6 76 (.cells #[.int .i64 0, .int .i64 0] 76 (0, 0)) (by kernel_rfl) (by kernel_rfl) (by kernel_rfl) (by kernel_rfl) (by kernel_rfl) (by kernel_rfl) (fun w => by kernel_rfl) ?_
 (repeat (first | refine wpCalm_alloc (by rfl) ?_ | (refine wpCalm_step (by rfl) (fun K hK => ?_); go_simp; first | (refine hK _ ?_; clear hK K) | (apply Exists.intro; refine ⟨fun _ => ?_, hK _ ?_⟩; (first | exact C1.out _ _ _ | exact C2.out _ _ _); clear hK K))))
 refine wpCalm_nil ?_
 intro m wq hbq hm hzm
 have m0 : wq.cell? ⟨m, 0, none⟩ = some (.int .i64 0) := by simp [World.cell?, hzm]
 have m1 : wq.cell? ⟨m, 1, none⟩ = some (.int .i64 0) := by simp [World.cell?, hzm]
 have m2 : wq.frozen? ⟨m, 0, none⟩ = false := by simp [World.frozen?, hzm]
 have m3 : wq.frozen? ⟨m, 1, none⟩ = false := by simp [World.frozen?, hzm]
 have n0 : ¬ m = w.heap.size := by omega
 have n1 : ¬ m = w.heap.size + 1 := by omega
 have n2 : ¬ w.heap.size = m := by omega
 have n3 : ¬ w.heap.size + 1 = m := by omega
 have nm : w.heap.size ≤ m := by omega
 clear k0 k1 k2 hzm
 have zw : w.heap.size < wd.heap.size := by omega
 have a0 : wq.cell? ⟨w.heap.size, 0, none⟩ = some (.int .i64 k) := (hbq.cell (p := ⟨w.heap.size, 0, none⟩) zw).trans f0
 have b0 : wq.cell? ⟨w.heap.size + 1, 0, none⟩ = some (.int .i64 0) := (hbq.cell (p := ⟨w.heap.size + 1, 0, none⟩) zd).trans g0
 have b1 : wq.cell? ⟨w.heap.size + 1, 1, none⟩ = some (.int .i64 0) := (hbq.cell (p := ⟨w.heap.size + 1, 1, none⟩) zd).trans g1
 have b2 : wq.frozen? ⟨w.heap.size + 1, 0, none⟩ = false := (hbq.frozen (p := ⟨w.heap.size + 1, 0, none⟩) zd).trans g2
 have b3 : wq.frozen? ⟨w.heap.size + 1, 1, none⟩ = false := (hbq.frozen (p := ⟨w.heap.size + 1, 1, none⟩) zd).trans g3
 have HW1 := Lib.hid (HB1.out.trans (hbq.mono (by omega)))
 have zq : w.heap.size + 1 < wq.heap.size := by have := hbq.size; omega
 have zq2 : w.heap.size < wq.heap.size := by omega
 clear hbq f0 f1 f2 g0 g1 g2 g3 HB1 zd zw
 by_cases h1 : dl < L
 ·go_wp2_with (with_reducible refine (CW.out _).mono ?_; rintro e w' ⟨rfl, rfl⟩)
  refine bodyPost_ret (v := .tuple #[.agg #[.int .i64 0, .int .i64 0], .int .i64 2]) ?_ rfl ⟨rfl, (by repeat' (first | with_reducible (first | exact HW1.out | apply bR | apply bD | apply bN | apply bA | apply bS) | (simp; done) | (simp; omega) | omega))⟩
  simp [results, Tryz.results147, go_sem, *]
 ·by_cases h2 : H < dh
  ·go_wp2_with (with_reducible refine (CW.out _).mono ?_; rintro e w' ⟨rfl, rfl⟩)
   refine bodyPost_ret (v := .tuple #[.agg #[.int .i64 0, .int .i64 0], .int .i64 2]) ?_ rfl ⟨rfl, (by repeat' (first | with_reducible (first | exact HW1.out | apply bR | apply bD | apply bN | apply bA | apply bS) | (simp; done) | (simp; omega) | omega))⟩
   simp [results, Tryz.results147, go_sem, *]
  ·go_wp2_with (with_reducible refine (CW.out _).mono ?_; rintro e w' ⟨rfl, rfl⟩)
   refine bodyPost_ret (v := .tuple #[.agg #[.int .i64 dl, .int .i64 dh], .int .i64 0]) ?_ rfl ⟨rfl, (by repeat' (first | with_reducible (first | exact HW1.out | apply bR | apply bD | apply bN | apply bA | apply bS) | (simp; done) | (simp; omega) | omega))⟩
   simp [results, Tryz.results147, go_sem, *]
theorem VFar_any (a : Wh) (o : Int) (ha : WOk a) (ho : In64 o) (w : World) :
  Calls Tryz.prog 147 #[.agg #[.int .i64 a.kind, .int .i64 a.b.lo, .int .i64 a.b.hi], .int .i64 o] w fun e w' => e = .returned (.tuple #[.agg #[.int .i64 (vfar a o).1.lo, .int .i64 (vfar a o).1.hi], .int .i64 (vfar a o).2]) ∧ Below w.heap.size w w' := by
 obtain ⟨k, ⟨lo, hi⟩⟩ := a
 obtain ⟨hk, hb⟩ := ha
 simp only at hk hb
 by_cases h : k = 0 ∨ k = 1 ∨ k = 5
 ·refine (VFar_no k lo hi o h w).mono fun e w' he => ?_
  have e1 : vfar ⟨k, ⟨lo, hi⟩⟩ o = (bnil, if k = 0 then 8 else 1) := by
   unfold vfar
   simp only
   by_cases h0 : k = 0
   ·rw [if_pos h0, if_pos h0]
   ·rw [if_neg h0, if_neg h0, if_pos (by omega)]
  rw [e1]; exact he
 ·exact VFar_place k lo hi o (by omega) hb ho w
end Go.Proofs.YtpdlmbbgioenoaaGreatDoor.W
namespace Go.Proofs.YtpdlmbbgioenoaaGreatDoor.W
open Go.RowKit Go.Proofs.YtpdlmbbgioenoaaGreatDoor.P
theorem vbeq_no {a b : Int} (h : a ≠ b) : (a == b) = false := by rw [beq_eq_false_iff_ne]; exact h
theorem vbeq_yes {a b : Int} (h : a = b) : (a == b) = true := by rw [beq_iff_eq]; exact h
theorem vbne_yes {a b : Int} (h : a ≠ b) : (a != b) = true := by rw [bne_iff_ne]; exact h
theorem vbne_no {a b : Int} (h : a = b) : (a != b) = false := by simp [h]
theorem rcells {w : World} {b : Nat} {s : VS} (hI : P.Img w b 81 (simg wcell s)) {k : Nat} (hk : k < 11) : w.cell? ⟨b, k * 3, none⟩ = some (.int .i64 (s.regs k).kind) ∧ w.cell? ⟨b, k * 3 + 1, none⟩ = some (.int .i64 (s.regs k).b.lo) ∧ w.cell? ⟨b, k * 3 + 2, none⟩ = some (.int .i64 (s.regs k).b.hi) :=
 ⟨(hI.cell (k * 3) (by omega)).trans (congrArg some ((simg_reg hk (by omega : 0 < 3) (by omega)).trans (wcell_0 _))), (hI.cell (k * 3 + 1) (by omega)).trans (congrArg some ((simg_reg hk (by omega : 1 < 3) (by omega)).trans (wcell_1 _))), (hI.cell (k * 3 + 2) (by omega)).trans (congrArg some ((simg_reg hk (by omega : 2 < 3) (by omega)).trans (wcell_2 _)))⟩
theorem lcells {w : World} {b : Nat} {s : VS} (hI : P.Img w b 81 (simg wcell s)) {k : Nat} (hk : k < 16) : w.cell? ⟨b, 33 + k * 3, none⟩ = some (.int .i64 (s.slots k).kind) ∧ w.cell? ⟨b, 33 + k * 3 + 1, none⟩ = some (.int .i64 (s.slots k).b.lo) ∧ w.cell? ⟨b, 33 + k * 3 + 2, none⟩ = some (.int .i64 (s.slots k).b.hi) :=
 ⟨(hI.cell (33 + k * 3) (by omega)).trans (congrArg some ((simg_slot hk (by omega : 0 < 3) (by omega)).trans (wcell_0 _))), (hI.cell (33 + k * 3 + 1) (by omega)).trans (congrArg some ((simg_slot hk (by omega : 1 < 3) (by omega)).trans (wcell_1 _))), (hI.cell (33 + k * 3 + 2) (by omega)).trans (congrArg some ((simg_slot hk (by omega : 2 < 3) (by omega)).trans (wcell_2 _)))⟩
set_option maxHeartbeats 1000000 in
theorem VSecond_reg (b : Nat) (s : VS) (w : World) (hI : P.Img w b 81 (simg wcell s)) (c d : Int) (k : Nat) (hk : k < 11) (o n : Int) :
  Calls Tryz.prog 109 #[.pointer (some ⟨b, 0, none⟩), .agg #[.int .i64 c, .int .i64 d, .int .i64 k, .bool true, .int .i64 o, .int .i64 n]] w fun e w' =>
   e = .returned (.agg #[.int .i64 (s.regs k).kind, .int .i64 (s.regs k).b.lo, .int .i64 (s.regs k).b.hi]) ∧ Below w.heap.size w w' := by
 have HW0 := Lib.hid (Below.refl w.heap.size w)
 have hlt := hI.lt (by omega)
 have i0 : (0 : Int) ≤ (k : Int) := by omega
 have i1 : (k : Int) < 11 := by omega
 obtain ⟨c0, c1, c2⟩ := rcells hI hk
 have HI := Lib.hid hI
 clear hI
 go_enter Tryz.func109, Tryz.ntmps109
 go_wp2_with fail
 go_region
 all_goals
  go_wp2_with fail
  refine bodyPost_ret ?_ rfl ⟨rfl, (by repeat' (first | with_reducible (first | exact HW0.out | apply bR | apply bD | apply bN | apply bA | apply bS) | (simp; done) | (simp; omega) | omega))⟩
  simp [results, Tryz.results109, go_sem]
set_option maxHeartbeats 1000000 in
theorem VSecond_num (p : Value) (w : World) (c d k o n : Int) :
  Calls Tryz.prog 109 #[p, .agg #[.int .i64 c, .int .i64 d, .int .i64 k, .bool false, .int .i64 o, .int .i64 n]] w fun e w' =>
   e = .returned (.agg #[.int .i64 1, .int .i64 n, .int .i64 n]) ∧ Below w.heap.size w w' := by
 have HW0 := Lib.hid (Below.refl w.heap.size w)
 go_enter Tryz.func109, Tryz.ntmps109
 go_wp2_with fail
 refine (One_any n _).mono ?_
 (rintro e w1 ⟨rfl, hb⟩; obtain ⟨hc1, hf1⟩ := bcell hb; have hz1 := hb.size; (try simp at hz1); have HW1 := Lib.hid (show Below w.heap.size w w1 from Below.trans (by repeat' (first | with_reducible (first | exact HW0.out | apply bR | apply bD | apply bN | apply bA | apply bS) | (simp; done) | (simp; omega) | omega)) (hb.mono (by first | omega | simp <;> omega))); clear hb; (try have z10 : w.heap.size < w1.heap.size := by omega); (try have z11 : w.heap.size + 1 < w1.heap.size := by omega); (try have z12 : w.heap.size + 1 + 1 < w1.heap.size := by omega))
 (have k1_w_heap_size_1_0 : w1.cell? ⟨w.heap.size + 1, 0, none⟩ = some (.int .i64 0) := (by rw [hc1 _ _ (by first | omega | simp <;> omega)]; first | (simp [go_sem]; done) | assumption | (simp [go_sem, *]; done)); have r1_w_heap_size_1_0 : w1.frozen? ⟨w.heap.size + 1, 0, none⟩ = false := (by rw [hf1 _ _ (by first | omega | simp <;> omega)]; first | (simp [go_sem]; done) | assumption | (simp [go_sem, *]; done)); have k1_w_heap_size_1_1 : w1.cell? ⟨w.heap.size + 1, 1, none⟩ = some (.int .i64 0) := (by rw [hc1 _ _ (by first | omega | simp <;> omega)]; first | (simp [go_sem]; done) | assumption | (simp [go_sem, *]; done)); have r1_w_heap_size_1_1 : w1.frozen? ⟨w.heap.size + 1, 1, none⟩ = false := (by rw [hf1 _ _ (by first | omega | simp <;> omega)]; first | (simp [go_sem]; done) | assumption | (simp [go_sem, *]; done)); have k1_w_heap_size_1_2 : w1.cell? ⟨w.heap.size + 1, 2, none⟩ = some (.int .i64 0) := (by rw [hc1 _ _ (by first | omega | simp <;> omega)]; first | (simp [go_sem]; done) | assumption | (simp [go_sem, *]; done)); have r1_w_heap_size_1_2 : w1.frozen? ⟨w.heap.size + 1, 2, none⟩ = false := (by rw [hf1 _ _ (by first | omega | simp <;> omega)]; first | (simp [go_sem]; done) | assumption | (simp [go_sem, *]; done)))
 clear hc1 hf1
 go_wp2_with fail
 refine (VNumber_any n n _).mono ?_
 (rintro e w2 ⟨rfl, hb⟩; obtain ⟨hc2, hf2⟩ := bcell hb; have hz2 := hb.size; (try simp at hz2); have HW2 := Lib.hid (show Below w.heap.size w w2 from Below.trans (by repeat' (first | with_reducible (first | exact HW1.out | apply bR | apply bD | apply bN | apply bA | apply bS) | (simp; done) | (simp; omega) | omega)) (hb.mono (by first | omega | simp <;> omega))); clear hb; (try have z20 : w.heap.size < w2.heap.size := by omega); (try have z21 : w.heap.size + 1 < w2.heap.size := by omega); (try have z22 : w.heap.size + 1 + 1 < w2.heap.size := by omega))
 (have k2_w_heap_size_1_0 : w2.cell? ⟨w.heap.size + 1, 0, none⟩ = some (.int .i64 0) := (by rw [hc2 _ _ (by first | omega | simp <;> omega)]; first | (simp [go_sem]; done) | assumption | (simp [go_sem, *]; done)); have r2_w_heap_size_1_0 : w2.frozen? ⟨w.heap.size + 1, 0, none⟩ = false := (by rw [hf2 _ _ (by first | omega | simp <;> omega)]; first | (simp [go_sem]; done) | assumption | (simp [go_sem, *]; done)); have k2_w_heap_size_1_1 : w2.cell? ⟨w.heap.size + 1, 1, none⟩ = some (.int .i64 0) := (by rw [hc2 _ _ (by first | omega | simp <;> omega)]; first | (simp [go_sem]; done) | assumption | (simp [go_sem, *]; done)); have r2_w_heap_size_1_1 : w2.frozen? ⟨w.heap.size + 1, 1, none⟩ = false := (by rw [hf2 _ _ (by first | omega | simp <;> omega)]; first | (simp [go_sem]; done) | assumption | (simp [go_sem, *]; done)); have k2_w_heap_size_1_2 : w2.cell? ⟨w.heap.size + 1, 2, none⟩ = some (.int .i64 0) := (by rw [hc2 _ _ (by first | omega | simp <;> omega)]; first | (simp [go_sem]; done) | assumption | (simp [go_sem, *]; done)); have r2_w_heap_size_1_2 : w2.frozen? ⟨w.heap.size + 1, 2, none⟩ = false := (by rw [hf2 _ _ (by first | omega | simp <;> omega)]; first | (simp [go_sem]; done) | assumption | (simp [go_sem, *]; done)))
 clear hc2 hf2
 go_wp2_with fail
 refine bodyPost_ret ?_ rfl ⟨rfl, (by repeat' (first | with_reducible (first | exact HW2.out | apply bR | apply bD | apply bN | apply bA | apply bS) | (simp; done) | (simp; omega) | omega))⟩
 simp [results, Tryz.results109, go_sem, *]
theorem VSecond_any (b : Nat) (s : VS) (w : World) (hI : P.Img w b 81 (simg wcell s)) (c d : Int) (k : Nat) (r : Bool) (o n : Int) (hk : k < 11) :
  Calls Tryz.prog 109 #[.pointer (some ⟨b, 0, none⟩), .agg #[.int .i64 c, .int .i64 d, .int .i64 k, .bool r, .int .i64 o, .int .i64 n]] w fun e w' =>
   e = .returned (.agg #[.int .i64 (s.second ⟨c, d, k, r, o, n⟩).kind, .int .i64 (s.second ⟨c, d, k, r, o, n⟩).b.lo, .int .i64 (s.second ⟨c, d, k, r, o, n⟩).b.hi]) ∧ Below w.heap.size w w' := by
 cases r with
 | true => exact VSecond_reg b s w hI c d k hk o n
 | false => exact VSecond_num _ w c d k o n
set_option maxHeartbeats 1000000 in
theorem VLoad_err (b : Nat) (s : VS) (w : World) (a : Wh) (ha : WOk a) (o : Int) (ho : In64 o) (d : B) (er : Int) (hke : vfar a o = (d, er)) (he : er ≠ 0) :
  Calls Tryz.prog 107 #[.pointer (some ⟨b, 0, none⟩), .agg #[.int .i64 a.kind, .int .i64 a.b.lo, .int .i64 a.b.hi], .int .i64 o] w fun e w' =>
   e = .returned (.tuple #[.agg #[.int .i64 0, .int .i64 0, .int .i64 0], .int .i64 er]) ∧ Below w.heap.size w w' := by
 have HW0 := Lib.hid (Below.refl w.heap.size w)
 have C := Lib.hid (fun w => VFar_any a o ha ho w)
 have HK := Lib.hid hke
 have he2 := vbne_yes he
 have he3 := vbeq_no he
 clear hke he ha ho
 go_enter Tryz.func107, Tryz.ntmps107
 go_wp2_with fail
 refine (C.out _).mono ?_
 rw [HK.out]
 (rintro e w1 ⟨rfl, hb⟩; obtain ⟨hc1, hf1⟩ := bcell hb; have hz1 := hb.size; (try simp at hz1); have HW1 := Lib.hid (show Below w.heap.size w w1 from Below.trans (by repeat' (first | with_reducible (first | exact HW0.out | apply bR | apply bD | apply bN | apply bA | apply bS) | (simp; done) | (simp; omega) | omega)) (hb.mono (by first | omega | simp <;> omega))); clear hb; (try have z10 : w.heap.size < w1.heap.size := by omega); (try have z11 : w.heap.size + 1 < w1.heap.size := by omega); (try have z12 : w.heap.size + 1 + 1 < w1.heap.size := by omega))
 (have k1_w_heap_size_1_0 : w1.cell? ⟨w.heap.size + 1, 0, none⟩ = some (.int .i64 0) := (by rw [hc1 _ _ (by first | omega | simp <;> omega)]; first | (simp [go_sem]; done) | assumption | (simp [go_sem, *]; done)); have r1_w_heap_size_1_0 : w1.frozen? ⟨w.heap.size + 1, 0, none⟩ = false := (by rw [hf1 _ _ (by first | omega | simp <;> omega)]; first | (simp [go_sem]; done) | assumption | (simp [go_sem, *]; done)); have k1_w_heap_size_1_1 : w1.cell? ⟨w.heap.size + 1, 1, none⟩ = some (.int .i64 0) := (by rw [hc1 _ _ (by first | omega | simp <;> omega)]; first | (simp [go_sem]; done) | assumption | (simp [go_sem, *]; done)); have r1_w_heap_size_1_1 : w1.frozen? ⟨w.heap.size + 1, 1, none⟩ = false := (by rw [hf1 _ _ (by first | omega | simp <;> omega)]; first | (simp [go_sem]; done) | assumption | (simp [go_sem, *]; done)); have k1_w_heap_size_1_2 : w1.cell? ⟨w.heap.size + 1, 2, none⟩ = some (.int .i64 0) := (by rw [hc1 _ _ (by first | omega | simp <;> omega)]; first | (simp [go_sem]; done) | assumption | (simp [go_sem, *]; done)); have r1_w_heap_size_1_2 : w1.frozen? ⟨w.heap.size + 1, 2, none⟩ = false := (by rw [hf1 _ _ (by first | omega | simp <;> omega)]; first | (simp [go_sem]; done) | assumption | (simp [go_sem, *]; done)))
 clear hc1 hf1
 go_wp2_with fail
 refine bodyPost_ret ?_ rfl ⟨rfl, (by repeat' (first | with_reducible (first | exact HW1.out | apply bR | apply bD | apply bN | apply bA | apply bS) | (simp; done) | (simp; omega) | omega))⟩
 simp [results, Tryz.results107, go_sem, *]
set_option maxHeartbeats 1000000 in
theorem VLoad_told (b : Nat) (s : VS) (w : World) (k l h : Int) (hk : k = 2 ∨ k = 4) (ha : B.Ok ⟨l, h⟩) (o : Int) (ho : In64 o) (d : B) (hke : vfar ⟨k, ⟨l, h⟩⟩ o = (d, 0)) :
  Calls Tryz.prog 107 #[.pointer (some ⟨b, 0, none⟩), .agg #[.int .i64 k, .int .i64 l, .int .i64 h], .int .i64 o] w fun e w' =>
   e = .returned (.tuple #[.agg #[.int .i64 1, .int .i64 (-9223372036854775808), .int .i64 9223372036854775807], .int .i64 0]) ∧ Below w.heap.size w w' := by
 have HW0 := Lib.hid (Below.refl w.heap.size w)
 have C := Lib.hid (fun w => VFar_any ⟨k, ⟨l, h⟩⟩ o ⟨by simp only; omega, ha⟩ ho w)
 have HK := Lib.hid hke
 have t1 := vbne_yes (show k ≠ 3 by omega)
 clear hke ha ho hk
 go_enter Tryz.func107, Tryz.ntmps107
 go_wp2_with fail
 refine (C.out _).mono ?_
 rw [HK.out]
 (rintro e w1 ⟨rfl, hb⟩; obtain ⟨hc1, hf1⟩ := bcell hb; have hz1 := hb.size; (try simp at hz1); have HW1 := Lib.hid (show Below w.heap.size w w1 from Below.trans (by repeat' (first | with_reducible (first | exact HW0.out | apply bR | apply bD | apply bN | apply bA | apply bS) | (simp; done) | (simp; omega) | omega)) (hb.mono (by first | omega | simp <;> omega))); clear hb; (try have z10 : w.heap.size < w1.heap.size := by omega); (try have z11 : w.heap.size + 1 < w1.heap.size := by omega); (try have z12 : w.heap.size + 1 + 1 < w1.heap.size := by omega))
 (have k1_w_heap_size_0 : w1.cell? ⟨w.heap.size, 0, none⟩ = some (.int .i64 k) := (by rw [hc1 _ _ (by first | omega | simp <;> omega)]; first | (simp [go_sem]; done) | assumption | (simp [go_sem, *]; done)); have r1_w_heap_size_0 : w1.frozen? ⟨w.heap.size, 0, none⟩ = false := (by rw [hf1 _ _ (by first | omega | simp <;> omega)]; first | (simp [go_sem]; done) | assumption | (simp [go_sem, *]; done)); have k1_w_heap_size_1 : w1.cell? ⟨w.heap.size, 1, none⟩ = some (.int .i64 l) := (by rw [hc1 _ _ (by first | omega | simp <;> omega)]; first | (simp [go_sem]; done) | assumption | (simp [go_sem, *]; done)); have r1_w_heap_size_1 : w1.frozen? ⟨w.heap.size, 1, none⟩ = false := (by rw [hf1 _ _ (by first | omega | simp <;> omega)]; first | (simp [go_sem]; done) | assumption | (simp [go_sem, *]; done)); have k1_w_heap_size_2 : w1.cell? ⟨w.heap.size, 2, none⟩ = some (.int .i64 h) := (by rw [hc1 _ _ (by first | omega | simp <;> omega)]; first | (simp [go_sem]; done) | assumption | (simp [go_sem, *]; done)); have r1_w_heap_size_2 : w1.frozen? ⟨w.heap.size, 2, none⟩ = false := (by rw [hf1 _ _ (by first | omega | simp <;> omega)]; first | (simp [go_sem]; done) | assumption | (simp [go_sem, *]; done)))
 (have k1_w_heap_size_1_0 : w1.cell? ⟨w.heap.size + 1, 0, none⟩ = some (.int .i64 0) := (by rw [hc1 _ _ (by first | omega | simp <;> omega)]; first | (simp [go_sem]; done) | assumption | (simp [go_sem, *]; done)); have r1_w_heap_size_1_0 : w1.frozen? ⟨w.heap.size + 1, 0, none⟩ = false := (by rw [hf1 _ _ (by first | omega | simp <;> omega)]; first | (simp [go_sem]; done) | assumption | (simp [go_sem, *]; done)); have k1_w_heap_size_1_1 : w1.cell? ⟨w.heap.size + 1, 1, none⟩ = some (.int .i64 0) := (by rw [hc1 _ _ (by first | omega | simp <;> omega)]; first | (simp [go_sem]; done) | assumption | (simp [go_sem, *]; done)); have r1_w_heap_size_1_1 : w1.frozen? ⟨w.heap.size + 1, 1, none⟩ = false := (by rw [hf1 _ _ (by first | omega | simp <;> omega)]; first | (simp [go_sem]; done) | assumption | (simp [go_sem, *]; done)); have k1_w_heap_size_1_2 : w1.cell? ⟨w.heap.size + 1, 2, none⟩ = some (.int .i64 0) := (by rw [hc1 _ _ (by first | omega | simp <;> omega)]; first | (simp [go_sem]; done) | assumption | (simp [go_sem, *]; done)); have r1_w_heap_size_1_2 : w1.frozen? ⟨w.heap.size + 1, 2, none⟩ = false := (by rw [hf1 _ _ (by first | omega | simp <;> omega)]; first | (simp [go_sem]; done) | assumption | (simp [go_sem, *]; done)))
 clear hc1 hf1
 go_wp2_with fail
 refine (All_any _).mono ?_
 (rintro e w2 ⟨rfl, hb⟩; obtain ⟨hc2, hf2⟩ := bcell hb; have hz2 := hb.size; (try simp at hz2); have HW2 := Lib.hid (show Below w.heap.size w w2 from Below.trans (by repeat' (first | with_reducible (first | exact HW1.out | apply bR | apply bD | apply bN | apply bA | apply bS) | (simp; done) | (simp; omega) | omega)) (hb.mono (by first | omega | simp <;> omega))); clear hb; (try have z20 : w.heap.size < w2.heap.size := by omega); (try have z21 : w.heap.size + 1 < w2.heap.size := by omega); (try have z22 : w.heap.size + 1 + 1 < w2.heap.size := by omega))
 (have k2_w_heap_size_1_0 : w2.cell? ⟨w.heap.size + 1, 0, none⟩ = some (.int .i64 0) := (by rw [hc2 _ _ (by first | omega | simp <;> omega)]; first | (simp [go_sem]; done) | assumption | (simp [go_sem, *]; done)); have r2_w_heap_size_1_0 : w2.frozen? ⟨w.heap.size + 1, 0, none⟩ = false := (by rw [hf2 _ _ (by first | omega | simp <;> omega)]; first | (simp [go_sem]; done) | assumption | (simp [go_sem, *]; done)); have k2_w_heap_size_1_1 : w2.cell? ⟨w.heap.size + 1, 1, none⟩ = some (.int .i64 0) := (by rw [hc2 _ _ (by first | omega | simp <;> omega)]; first | (simp [go_sem]; done) | assumption | (simp [go_sem, *]; done)); have r2_w_heap_size_1_1 : w2.frozen? ⟨w.heap.size + 1, 1, none⟩ = false := (by rw [hf2 _ _ (by first | omega | simp <;> omega)]; first | (simp [go_sem]; done) | assumption | (simp [go_sem, *]; done)); have k2_w_heap_size_1_2 : w2.cell? ⟨w.heap.size + 1, 2, none⟩ = some (.int .i64 0) := (by rw [hc2 _ _ (by first | omega | simp <;> omega)]; first | (simp [go_sem]; done) | assumption | (simp [go_sem, *]; done)); have r2_w_heap_size_1_2 : w2.frozen? ⟨w.heap.size + 1, 2, none⟩ = false := (by rw [hf2 _ _ (by first | omega | simp <;> omega)]; first | (simp [go_sem]; done) | assumption | (simp [go_sem, *]; done)))
 clear hc2 hf2
 go_wp2_with fail
 refine (VNumber_any _ _ _).mono ?_
 (rintro e w3 ⟨rfl, hb⟩; obtain ⟨hc3, hf3⟩ := bcell hb; have hz3 := hb.size; (try simp at hz3); have HW3 := Lib.hid (show Below w.heap.size w w3 from Below.trans (by repeat' (first | with_reducible (first | exact HW2.out | apply bR | apply bD | apply bN | apply bA | apply bS) | (simp; done) | (simp; omega) | omega)) (hb.mono (by first | omega | simp <;> omega))); clear hb; (try have z30 : w.heap.size < w3.heap.size := by omega); (try have z31 : w.heap.size + 1 < w3.heap.size := by omega); (try have z32 : w.heap.size + 1 + 1 < w3.heap.size := by omega))
 (have k3_w_heap_size_1_0 : w3.cell? ⟨w.heap.size + 1, 0, none⟩ = some (.int .i64 0) := (by rw [hc3 _ _ (by first | omega | simp <;> omega)]; first | (simp [go_sem]; done) | assumption | (simp [go_sem, *]; done)); have r3_w_heap_size_1_0 : w3.frozen? ⟨w.heap.size + 1, 0, none⟩ = false := (by rw [hf3 _ _ (by first | omega | simp <;> omega)]; first | (simp [go_sem]; done) | assumption | (simp [go_sem, *]; done)); have k3_w_heap_size_1_1 : w3.cell? ⟨w.heap.size + 1, 1, none⟩ = some (.int .i64 0) := (by rw [hc3 _ _ (by first | omega | simp <;> omega)]; first | (simp [go_sem]; done) | assumption | (simp [go_sem, *]; done)); have r3_w_heap_size_1_1 : w3.frozen? ⟨w.heap.size + 1, 1, none⟩ = false := (by rw [hf3 _ _ (by first | omega | simp <;> omega)]; first | (simp [go_sem]; done) | assumption | (simp [go_sem, *]; done)); have k3_w_heap_size_1_2 : w3.cell? ⟨w.heap.size + 1, 2, none⟩ = some (.int .i64 0) := (by rw [hc3 _ _ (by first | omega | simp <;> omega)]; first | (simp [go_sem]; done) | assumption | (simp [go_sem, *]; done)); have r3_w_heap_size_1_2 : w3.frozen? ⟨w.heap.size + 1, 2, none⟩ = false := (by rw [hf3 _ _ (by first | omega | simp <;> omega)]; first | (simp [go_sem]; done) | assumption | (simp [go_sem, *]; done)))
 clear hc3 hf3
 go_wp2_with fail
 refine bodyPost_ret ?_ rfl ⟨rfl, (by repeat' (first | with_reducible (first | exact HW3.out | apply bR | apply bD | apply bN | apply bA | apply bS) | (simp; done) | (simp; omega) | omega))⟩
 simp [results, Tryz.results107, go_sem, *]
set_option maxHeartbeats 1000000 in
theorem VLoad_one (b : Nat) (s : VS) (w : World) (hI : P.Img w b 81 (simg wcell s)) (l h : Int) (ha : B.Ok ⟨l, h⟩) (o : Int) (ho : In64 o) (q : Nat) (hq : q < 16) (hke : vfar ⟨3, ⟨l, h⟩⟩ o = (⟨(q : Int) - 16, (q : Int) - 16⟩, 0)) (x : Wh) (hx : s.slots q = x) :
  Calls Tryz.prog 107 #[.pointer (some ⟨b, 0, none⟩), .agg #[.int .i64 3, .int .i64 l, .int .i64 h], .int .i64 o] w fun e w' =>
   e = .returned (.tuple #[.agg #[.int .i64 (if x.kind = 0 then 0 else x.kind), .int .i64 (if x.kind = 0 then 0 else x.b.lo), .int .i64 (if x.kind = 0 then 0 else x.b.hi)], .int .i64 (if x.kind = 0 then 8 else 0)]) ∧ Below w.heap.size w w' := by
 have HW0 := Lib.hid (Below.refl w.heap.size w)
 have hlt := hI.lt (by omega)
 have C := Lib.hid (fun w => VFar_any ⟨3, ⟨l, h⟩⟩ o ⟨by simp, ha⟩ ho w)
 have HI := Lib.hid hI
 have HK := Lib.hid hke
 have HX := Lib.hid hx
 have q7 : (q : Int) < 16 := by omega
 have e16 : (q : Int) - 16 + 16 = q := by omega
 clear hI hke ha ho hx
 by_cases hz : x.kind = 0
 ·simp only [hz, if_true]
  have hz2 := vbeq_yes hz
  clear hz
  go_enter Tryz.func107, Tryz.ntmps107
  go_wp2_with fail
  refine (C.out _).mono ?_
  rw [HK.out]
  (rintro e w1 ⟨rfl, hb⟩; obtain ⟨hc1, hf1⟩ := bcell hb; have hz1 := hb.size; (try simp at hz1); have HW1 := Lib.hid (show Below w.heap.size w w1 from Below.trans (by repeat' (first | with_reducible (first | exact HW0.out | apply bR | apply bD | apply bN | apply bA | apply bS) | (simp; done) | (simp; omega) | omega)) (hb.mono (by first | omega | simp <;> omega))); clear hb; (try have z10 : w.heap.size < w1.heap.size := by omega); (try have z11 : w.heap.size + 1 < w1.heap.size := by omega); (try have z12 : w.heap.size + 1 + 1 < w1.heap.size := by omega))
  (have k1_w_heap_size_0 : w1.cell? ⟨w.heap.size, 0, none⟩ = some (.int .i64 3) := (by rw [hc1 _ _ (by first | omega | simp <;> omega)]; first | (simp [go_sem]; done) | assumption | (simp [go_sem, *]; done)); have r1_w_heap_size_0 : w1.frozen? ⟨w.heap.size, 0, none⟩ = false := (by rw [hf1 _ _ (by first | omega | simp <;> omega)]; first | (simp [go_sem]; done) | assumption | (simp [go_sem, *]; done)); have k1_w_heap_size_1 : w1.cell? ⟨w.heap.size, 1, none⟩ = some (.int .i64 l) := (by rw [hc1 _ _ (by first | omega | simp <;> omega)]; first | (simp [go_sem]; done) | assumption | (simp [go_sem, *]; done)); have r1_w_heap_size_1 : w1.frozen? ⟨w.heap.size, 1, none⟩ = false := (by rw [hf1 _ _ (by first | omega | simp <;> omega)]; first | (simp [go_sem]; done) | assumption | (simp [go_sem, *]; done)); have k1_w_heap_size_2 : w1.cell? ⟨w.heap.size, 2, none⟩ = some (.int .i64 h) := (by rw [hc1 _ _ (by first | omega | simp <;> omega)]; first | (simp [go_sem]; done) | assumption | (simp [go_sem, *]; done)); have r1_w_heap_size_2 : w1.frozen? ⟨w.heap.size, 2, none⟩ = false := (by rw [hf1 _ _ (by first | omega | simp <;> omega)]; first | (simp [go_sem]; done) | assumption | (simp [go_sem, *]; done)))
  (have k1_w_heap_size_1_0 : w1.cell? ⟨w.heap.size + 1, 0, none⟩ = some (.int .i64 0) := (by rw [hc1 _ _ (by first | omega | simp <;> omega)]; first | (simp [go_sem]; done) | assumption | (simp [go_sem, *]; done)); have r1_w_heap_size_1_0 : w1.frozen? ⟨w.heap.size + 1, 0, none⟩ = false := (by rw [hf1 _ _ (by first | omega | simp <;> omega)]; first | (simp [go_sem]; done) | assumption | (simp [go_sem, *]; done)); have k1_w_heap_size_1_1 : w1.cell? ⟨w.heap.size + 1, 1, none⟩ = some (.int .i64 0) := (by rw [hc1 _ _ (by first | omega | simp <;> omega)]; first | (simp [go_sem]; done) | assumption | (simp [go_sem, *]; done)); have r1_w_heap_size_1_1 : w1.frozen? ⟨w.heap.size + 1, 1, none⟩ = false := (by rw [hf1 _ _ (by first | omega | simp <;> omega)]; first | (simp [go_sem]; done) | assumption | (simp [go_sem, *]; done)); have k1_w_heap_size_1_2 : w1.cell? ⟨w.heap.size + 1, 2, none⟩ = some (.int .i64 0) := (by rw [hc1 _ _ (by first | omega | simp <;> omega)]; first | (simp [go_sem]; done) | assumption | (simp [go_sem, *]; done)); have r1_w_heap_size_1_2 : w1.frozen? ⟨w.heap.size + 1, 2, none⟩ = false := (by rw [hf1 _ _ (by first | omega | simp <;> omega)]; first | (simp [go_sem]; done) | assumption | (simp [go_sem, *]; done)))
  have hl := lcells (HI.out.later HW1.out hlt) hq
  have zb1 : b < w1.heap.size := (HI.out.later HW1.out hlt).lt (by omega)
  have zb2 : b < w1.heap.size + 1 := by omega
  rw [HX.out] at hl
  obtain ⟨d0, d1, d2⟩ := hl
  clear hc1 hf1
  go_wp2_with fail
  go_region
  all_goals
   go_wp2_with fail
   refine bodyPost_ret ?_ rfl ⟨rfl, (by repeat' (first | with_reducible (first | exact HW1.out | apply bR | apply bD | apply bN | apply bA | apply bS) | (simp; done) | (simp; omega) | omega))⟩
   simp [results, Tryz.results107, go_sem, *]
 ·simp only [hz, if_false]
  have hz2 := vbeq_no hz
  clear hz
  go_enter Tryz.func107, Tryz.ntmps107
  go_wp2_with fail
  refine (C.out _).mono ?_
  rw [HK.out]
  (rintro e w1 ⟨rfl, hb⟩; obtain ⟨hc1, hf1⟩ := bcell hb; have hz1 := hb.size; (try simp at hz1); have HW1 := Lib.hid (show Below w.heap.size w w1 from Below.trans (by repeat' (first | with_reducible (first | exact HW0.out | apply bR | apply bD | apply bN | apply bA | apply bS) | (simp; done) | (simp; omega) | omega)) (hb.mono (by first | omega | simp <;> omega))); clear hb; (try have z10 : w.heap.size < w1.heap.size := by omega); (try have z11 : w.heap.size + 1 < w1.heap.size := by omega); (try have z12 : w.heap.size + 1 + 1 < w1.heap.size := by omega))
  (have k1_w_heap_size_0 : w1.cell? ⟨w.heap.size, 0, none⟩ = some (.int .i64 3) := (by rw [hc1 _ _ (by first | omega | simp <;> omega)]; first | (simp [go_sem]; done) | assumption | (simp [go_sem, *]; done)); have r1_w_heap_size_0 : w1.frozen? ⟨w.heap.size, 0, none⟩ = false := (by rw [hf1 _ _ (by first | omega | simp <;> omega)]; first | (simp [go_sem]; done) | assumption | (simp [go_sem, *]; done)); have k1_w_heap_size_1 : w1.cell? ⟨w.heap.size, 1, none⟩ = some (.int .i64 l) := (by rw [hc1 _ _ (by first | omega | simp <;> omega)]; first | (simp [go_sem]; done) | assumption | (simp [go_sem, *]; done)); have r1_w_heap_size_1 : w1.frozen? ⟨w.heap.size, 1, none⟩ = false := (by rw [hf1 _ _ (by first | omega | simp <;> omega)]; first | (simp [go_sem]; done) | assumption | (simp [go_sem, *]; done)); have k1_w_heap_size_2 : w1.cell? ⟨w.heap.size, 2, none⟩ = some (.int .i64 h) := (by rw [hc1 _ _ (by first | omega | simp <;> omega)]; first | (simp [go_sem]; done) | assumption | (simp [go_sem, *]; done)); have r1_w_heap_size_2 : w1.frozen? ⟨w.heap.size, 2, none⟩ = false := (by rw [hf1 _ _ (by first | omega | simp <;> omega)]; first | (simp [go_sem]; done) | assumption | (simp [go_sem, *]; done)))
  (have k1_w_heap_size_1_0 : w1.cell? ⟨w.heap.size + 1, 0, none⟩ = some (.int .i64 0) := (by rw [hc1 _ _ (by first | omega | simp <;> omega)]; first | (simp [go_sem]; done) | assumption | (simp [go_sem, *]; done)); have r1_w_heap_size_1_0 : w1.frozen? ⟨w.heap.size + 1, 0, none⟩ = false := (by rw [hf1 _ _ (by first | omega | simp <;> omega)]; first | (simp [go_sem]; done) | assumption | (simp [go_sem, *]; done)); have k1_w_heap_size_1_1 : w1.cell? ⟨w.heap.size + 1, 1, none⟩ = some (.int .i64 0) := (by rw [hc1 _ _ (by first | omega | simp <;> omega)]; first | (simp [go_sem]; done) | assumption | (simp [go_sem, *]; done)); have r1_w_heap_size_1_1 : w1.frozen? ⟨w.heap.size + 1, 1, none⟩ = false := (by rw [hf1 _ _ (by first | omega | simp <;> omega)]; first | (simp [go_sem]; done) | assumption | (simp [go_sem, *]; done)); have k1_w_heap_size_1_2 : w1.cell? ⟨w.heap.size + 1, 2, none⟩ = some (.int .i64 0) := (by rw [hc1 _ _ (by first | omega | simp <;> omega)]; first | (simp [go_sem]; done) | assumption | (simp [go_sem, *]; done)); have r1_w_heap_size_1_2 : w1.frozen? ⟨w.heap.size + 1, 2, none⟩ = false := (by rw [hf1 _ _ (by first | omega | simp <;> omega)]; first | (simp [go_sem]; done) | assumption | (simp [go_sem, *]; done)))
  have hl := lcells (HI.out.later HW1.out hlt) hq
  have zb1 : b < w1.heap.size := (HI.out.later HW1.out hlt).lt (by omega)
  have zb2 : b < w1.heap.size + 1 := by omega
  rw [HX.out] at hl
  obtain ⟨d0, d1, d2⟩ := hl
  clear hc1 hf1
  go_wp2_with fail
  go_region
  all_goals
   go_wp2_with fail
   refine bodyPost_ret ?_ rfl ⟨rfl, (by repeat' (first | with_reducible (first | exact HW1.out | apply bR | apply bD | apply bN | apply bA | apply bS) | (simp; done) | (simp; omega) | omega))⟩
   simp [results, Tryz.results107, go_sem, *]
end Go.Proofs.YtpdlmbbgioenoaaGreatDoor.W
namespace Go.Proofs.YtpdlmbbgioenoaaGreatDoor.W
open Go.RowKit Go.Proofs.YtpdlmbbgioenoaaGreatDoor.P
theorem vany_err8 {sl : Nat → Wh} {n k : Nat} {acc : B} (h : (sl k).kind = 0) : vany sl (n + 1) k acc = (Wh.nil, 8) := by
 unfold vany; rw [if_pos h]
theorem vany_err1 {sl : Nat → Wh} {n k : Nat} {acc : B} (h : (sl k).kind ≠ 0) (h1 : (sl k).kind ≠ 1) : vany sl (n + 1) k acc = (Wh.nil, 1) := by
 unfold vany; rw [if_neg h, if_pos h1]
theorem vany_next {sl : Nat → Wh} {n k : Nat} {acc : B} (h1 : (sl k).kind = 1) : vany sl (n + 1) k acc = vany sl n (k + 1) (bjoin acc (sl k).b) := by
 conv => lhs; unfold vany
 rw [if_neg (by omega), if_neg (by simp [h1])]
set_option maxHeartbeats 4000000 in
theorem VLoad_many (b : Nat) (s : VS) (w : World) (hI : P.Img w b 81 (simg wcell s)) (l h : Int) (ha : B.Ok ⟨l, h⟩) (o : Int) (ho : In64 o) (q m : Nat) (L H : Int) (hL : L + 16 = q) (hH : H = L + m - 1) (hm : 2 ≤ m) (hq : q + m ≤ 16) (hke : vfar ⟨3, ⟨l, h⟩⟩ o = (⟨L, H⟩, 0)) :
  Calls Tryz.prog 107 #[.pointer (some ⟨b, 0, none⟩), .agg #[.int .i64 3, .int .i64 l, .int .i64 h], .int .i64 o] w fun e w' =>
   e = .returned (.tuple #[.agg #[.int .i64 (vany s.slots m q (s.slots q).b).1.kind, .int .i64 (vany s.slots m q (s.slots q).b).1.b.lo, .int .i64 (vany s.slots m q (s.slots q).b).1.b.hi], .int .i64 (vany s.slots m q (s.slots q).b).2]) ∧ Below w.heap.size w w' := by
 have HW0 := Lib.hid (Below.refl w.heap.size w)
 have hlt := hI.lt (by omega)
 have C := Lib.hid (fun w => VFar_any ⟨3, ⟨l, h⟩⟩ o ⟨by simp, ha⟩ ho w)
 have HI := Lib.hid hI
 have HK := Lib.hid hke
 have HH := Lib.hid hH
 have HL := Lib.hid hL
 have ne := vbeq_no (show L ≠ H by omega)
 have l0 : -16 ≤ L := by omega
 have l1 : L < 0 := by omega
 have l2 : L ≤ H := by omega
 have l3 : H < 0 := by omega
 clear hI hke ha ho hH hL
 go_enter Tryz.func107, Tryz.ntmps107
 go_wp2_with fail
 refine (C.out _).mono ?_
 rw [HK.out]
 (rintro e w1 ⟨rfl, hb⟩; obtain ⟨hc1, hf1⟩ := bcell hb; have hz1 := hb.size; (try simp at hz1); have HW1 := Lib.hid (show Below w.heap.size w w1 from Below.trans (by repeat' (first | with_reducible (first | exact HW0.out | apply bR | apply bD | apply bN | apply bA | apply bS) | (simp; done) | (simp; omega) | omega)) (hb.mono (by first | omega | simp <;> omega))); clear hb; (try have z10 : w.heap.size < w1.heap.size := by omega); (try have z11 : w.heap.size + 1 < w1.heap.size := by omega); (try have z12 : w.heap.size + 1 + 1 < w1.heap.size := by omega))
 (have k1_w_heap_size_0 : w1.cell? ⟨w.heap.size, 0, none⟩ = some (.int .i64 3) := (by rw [hc1 _ _ (by first | omega | simp <;> omega)]; first | (simp [go_sem]; done) | assumption | (simp [go_sem, *]; done)); have r1_w_heap_size_0 : w1.frozen? ⟨w.heap.size, 0, none⟩ = false := (by rw [hf1 _ _ (by first | omega | simp <;> omega)]; first | (simp [go_sem]; done) | assumption | (simp [go_sem, *]; done)); have k1_w_heap_size_1 : w1.cell? ⟨w.heap.size, 1, none⟩ = some (.int .i64 l) := (by rw [hc1 _ _ (by first | omega | simp <;> omega)]; first | (simp [go_sem]; done) | assumption | (simp [go_sem, *]; done)); have r1_w_heap_size_1 : w1.frozen? ⟨w.heap.size, 1, none⟩ = false := (by rw [hf1 _ _ (by first | omega | simp <;> omega)]; first | (simp [go_sem]; done) | assumption | (simp [go_sem, *]; done)); have k1_w_heap_size_2 : w1.cell? ⟨w.heap.size, 2, none⟩ = some (.int .i64 h) := (by rw [hc1 _ _ (by first | omega | simp <;> omega)]; first | (simp [go_sem]; done) | assumption | (simp [go_sem, *]; done)); have r1_w_heap_size_2 : w1.frozen? ⟨w.heap.size, 2, none⟩ = false := (by rw [hf1 _ _ (by first | omega | simp <;> omega)]; first | (simp [go_sem]; done) | assumption | (simp [go_sem, *]; done)))
 have I1 := HI.out.later HW1.out hlt
 have R0 : w1.cell? ⟨w.heap.size + 1, 0, none⟩ = some (.int .i64 0) := (hc1 (w.heap.size + 1) 0 (by first | omega | simp <;> omega)).trans (by simp [go_sem])
 have R1 : w1.cell? ⟨w.heap.size + 1, 1, none⟩ = some (.int .i64 0) := (hc1 (w.heap.size + 1) 1 (by first | omega | simp <;> omega)).trans (by simp [go_sem])
 have R2 : w1.cell? ⟨w.heap.size + 1, 2, none⟩ = some (.int .i64 0) := (hc1 (w.heap.size + 1) 2 (by first | omega | simp <;> omega)).trans (by simp [go_sem])
 have F0 : w1.frozen? ⟨w.heap.size + 1, 0, none⟩ = false := (hf1 (w.heap.size + 1) 0 (by first | omega | simp <;> omega)).trans (by simp [go_sem])
 have F1 : w1.frozen? ⟨w.heap.size + 1, 1, none⟩ = false := (hf1 (w.heap.size + 1) 1 (by first | omega | simp <;> omega)).trans (by simp [go_sem])
 have F2 : w1.frozen? ⟨w.heap.size + 1, 2, none⟩ = false := (hf1 (w.heap.size + 1) 2 (by first | omega | simp <;> omega)).trans (by simp [go_sem])
 have HI1 := Lib.hid I1
 clear hc1 hf1 I1
 go_wp2_with fail
 have hW0 : Below w1.heap.size w1 (World.alloc (World.alloc w1 (.cells #[.int .i64 L, .int .i64 H] 76)) (.cells #[.int .i64 0, .int .i64 0, .int .i64 0] 156)) := ((Below.refl _ _).alloc (Nat.le_refl _) _).alloc (by simp) _
 go_loopw [12] (fun k wr => ∃ (i : Nat) (kk : Int) (acc : B), i ≤ m ∧ k = .int .i64 kk ∧ kk = L + i ∧ vany s.slots m q (s.slots q).b = vany s.slots (m - i) (q + i) acc ∧ (i = 0 → acc = (s.slots q).b) ∧
   P.Img wr (w1.heap.size + 1) 3 (fun j => if i = 0 then .int .i64 0 else wcell (Wh.num acc) j) ∧ wr.cell? ⟨w1.heap.size, 0, none⟩ = some (.int .i64 L) ∧ wr.cell? ⟨w1.heap.size, 1, none⟩ = some (.int .i64 H) ∧ Below w1.heap.size w1 wr) (fun k _ => (H + 1 - intOf k).toNat)
 case atStart =>
  refine ⟨0, L, (s.slots q).b, by omega, rfl, by simp, by simp, fun _ => rfl, ?_, by simp [go_sem], by simp [go_sem], hW0⟩
  refine Img.of_cells (by simpa using heap_alloc_new (World.alloc w1 _) _) (by rfl) fun j hj => ?_
  rcases j with _ | _ | _ | j
  ·rfl
  ·rfl
  ·rfl
  ·omega
 case round =>
  obtain ⟨i, kk, acc, him, rfl, hkk, hv, hacc, hIm, hL0, hL1, hB⟩ := hrel
  have HV := Lib.hid hv
  have HA := Lib.hid hacc
  have HIM := Lib.hid hIm
  have HB := Lib.hid hB
  have HKK := Lib.hid hkk
  have G0 := (hB.cell (p := ⟨w.heap.size + 1, 0, none⟩) z11).trans R0
  have G1 := (hB.cell (p := ⟨w.heap.size + 1, 1, none⟩) z11).trans R1
  have G2 := (hB.cell (p := ⟨w.heap.size + 1, 2, none⟩) z11).trans R2
  have E0 := (hB.frozen (p := ⟨w.heap.size + 1, 0, none⟩) z11).trans F0
  have E1 := (hB.frozen (p := ⟨w.heap.size + 1, 1, none⟩) z11).trans F1
  have E2 := (hB.frozen (p := ⟨w.heap.size + 1, 2, none⟩) z11).trans F2
  have HBW := Lib.hid (HW1.out.trans (hB.mono (by omega)))
  have zr : w1.heap.size + 1 < wr.heap.size := hIm.lt (by omega)
  have y0 := hIm.free 0 (by omega)
  have y1 := hIm.free 1 (by omega)
  have y2 := hIm.free 2 (by omega)
  have zr1 : w.heap.size + 1 < wr.heap.size := by omega
  have zr2 : w.heap.size < wr.heap.size := by omega
  have zr3 : w1.heap.size < wr.heap.size := by omega
  have zr4 : b < wr.heap.size := by omega
  have zn1 : ¬ wr.heap.size = w1.heap.size + 1 := by omega
  have zn2 : ¬ w1.heap.size + 1 = wr.heap.size := by omega
  by_cases hlt2 : i < m
  ·obtain ⟨n, hn⟩ : ∃ n, m - i = n + 1 := ⟨m - i - 1, by omega⟩
   obtain ⟨j, hj⟩ : ∃ j, q + i = j := ⟨_, rfl⟩
   have hk : j < 16 := by omega
   have hll := lcells (HI1.out.later hB (by omega)) hk
   obtain ⟨d0, d1, d2⟩ := hll
   have e16 : kk + 16 = (j : Int) := by have := HL.out; omega
   have k1 : kk ≤ H := by have := HH.out; omega
   have k2 : 0 ≤ kk + 16 := by omega
   have k3 : (j : Int) < 16 := by omega
   have k4 : (0 : Int) ≤ (j : Int) := by omega
   have s16 : IntKind.i64.wrap (kk + 16) = (j : Int) := by rw [e16]; exact IntWalk.i64_in _ (by omega)
   have hst : Hid (m - (i + 1) = n ∧ q + (i + 1) = j + 1 ∧ i + 1 ≤ m) := ⟨by omega, by omega, by omega⟩
   rw [hn, hj] at hv
   have HV := Lib.hid hv
   have HT : Hid (i = 0 → kk = L) := fun h => by rw [hkk, h]; simp
   have HT2 : Hid (i ≠ 0 → kk ≠ L) := fun h => by rw [hkk]; omega
   have HT3 : Hid (i = 0 → j = q) := fun h => by omega
   clear hv hacc hB hkk hj hn
   by_cases h0 : (s.slots j).kind = 0
   ·have t0 := vbeq_yes h0
    have hres := HV.out
    rw [vany_err8 h0] at hres
    have HRES := Lib.hid hres
    clear hres h0 hIm
    go_wp2_with fail
    refine bodyPost_ret (v := .tuple #[.agg #[.int .i64 0, .int .i64 0, .int .i64 0], .int .i64 8]) ?_ rfl ⟨by rw [HRES.out]; rfl, ?_⟩
    ·simp [results, Tryz.results107, go_sem, *]
    ·(repeat' (first | with_reducible exact HBW.out | with_reducible refine Below.setCell ?_ ?_ _ | with_reducible refine Below.alloc ?_ ?_ _ | (simp; done) | (simp; omega) | omega))
   ·by_cases h1 : (s.slots j).kind = 1
    ·have t1 := vbne_no h1
     have t0 := vbeq_no h0
     have hres := HV.out
     rw [vany_next h1] at hres
     have HRES := Lib.hid hres
     have h1' := Lib.hid h1
     clear hres h0 h1
     by_cases hi0 : i = 0
     ·have x0 : wr.cell? ⟨w1.heap.size + 1, 0, none⟩ = some (.int .i64 0) := by have := hIm.cell 0 (by omega); simpa [hi0] using this
      have x1 : wr.cell? ⟨w1.heap.size + 1, 1, none⟩ = some (.int .i64 0) := by have := hIm.cell 1 (by omega); simpa [hi0] using this
      have x2 : wr.cell? ⟨w1.heap.size + 1, 2, none⟩ = some (.int .i64 0) := by have := hIm.cell 2 (by omega); simpa [hi0] using this
      have t2 := vbeq_yes (HT.out hi0)
      have HI0 := Lib.hid hi0
      clear hIm hi0
      go_wp2_with fail
      go_roundw
      case rel =>
       go_light
       refine ⟨i + 1, kk + 1, (s.slots j).b, hst.out.2.2, rfl, by have := HKK.out; push_cast; omega, ?_, fun h => absurd h (by omega), ?_, by simp [go_sem, *], by simp [go_sem, *], ?_⟩
       ·have hjq := HT3.out HI0.out
        rw [hst.out.1, hst.out.2.1, HRES.out, HA.out HI0.out, show s.slots q = s.slots j by rw [hjq], bjoin_self]
       ·refine (Img.alloc ((((HIM.out.set (j := 0) (by omega) _).set (j := 1) (by omega) _).set (j := 2) (by omega) _)) _).congr fun t ht => ?_
        rcases t with _ | _ | _ | t
        ·simp [upd, wcell, Wh.num, h1'.out]
        ·simp [upd, wcell, Wh.num]
        ·simp [upd, wcell, Wh.num]
        ·omega
       ·(repeat' (first | with_reducible exact HB.out | with_reducible refine Below.setCell ?_ ?_ _ | with_reducible refine Below.alloc ?_ ?_ _ | (simp; done) | (simp; omega) | omega))
      case measure => simp [intOf]; omega
     ·have hx0 := hIm.cell 0 (by omega)
      have hx1 := hIm.cell 1 (by omega)
      have hx2 := hIm.cell 2 (by omega)
      simp only [hi0, if_false] at hx0 hx1 hx2
      have x0 : wr.cell? ⟨w1.heap.size + 1, 0, none⟩ = some (.int .i64 1) := hx0
      have x1 : wr.cell? ⟨w1.heap.size + 1, 1, none⟩ = some (.int .i64 acc.lo) := hx1
      have x2 : wr.cell? ⟨w1.heap.size + 1, 2, none⟩ = some (.int .i64 acc.hi) := hx2
      have t2 := vbeq_no (HT2.out hi0)
      have HI0 := Lib.hid hi0
      clear hIm hi0 hx0 hx1 hx2
      go_wp2_with fail
      refine (Join_any _ _ _ _ _).mono ?_
      rintro e w2 ⟨rfl, hb2⟩
      have HX2 := Lib.hid (Below.trans (Below.alloc (Below.refl w1.heap.size wr) (by omega) _) (hb2.mono (by simp; omega)))
      have hz2 := hb2.size
      simp at hz2
      have zz1 : w1.heap.size + 1 < (World.alloc wr (.cells #[.int .i64 (s.slots j).kind, .int .i64 (s.slots j).b.lo, .int .i64 (s.slots j).b.hi] 156)).heap.size := by simp; omega
      have zz2 : w1.heap.size < (World.alloc wr (.cells #[.int .i64 (s.slots j).kind, .int .i64 (s.slots j).b.lo, .int .i64 (s.slots j).b.hi] 156)).heap.size := by simp; omega
      have I2 := (HIM.out.alloc (.cells #[.int .i64 (s.slots j).kind, .int .i64 (s.slots j).b.lo, .int .i64 (s.slots j).b.hi] 156)).later hb2 zz1
      have u1 := I2.cell 1 (by omega)
      have u2 := I2.cell 2 (by omega)
      have v1 := I2.free 1 (by omega)
      have v2 := I2.free 2 (by omega)
      have HI2 := Lib.hid I2
      have b0 : w2.cell? ⟨w1.heap.size, 0, none⟩ = some (.int .i64 L) := (hb2.cell (p := ⟨w1.heap.size, 0, none⟩) zz2).trans (by simp [go_sem, *])
      have b1 : w2.cell? ⟨w1.heap.size, 1, none⟩ = some (.int .i64 H) := (hb2.cell (p := ⟨w1.heap.size, 1, none⟩) zz2).trans (by simp [go_sem, *])
      clear hb2 I2 zz1 zz2
      go_wp2_with fail
      go_roundw
      case rel =>
       go_light
       refine ⟨i + 1, kk + 1, bjoin acc (s.slots j).b, hst.out.2.2, rfl, by have := HKK.out; push_cast; omega, ?_, fun h => absurd h (by omega), ?_, by simp [go_sem, *], by simp [go_sem, *], ?_⟩
       ·rw [hst.out.1, hst.out.2.1, HRES.out]
       ·refine (((HI2.out.set (j := 1) (by omega) _).set (j := 2) (by omega) _)).congr fun t ht => ?_
        have := HI0.out
        rcases t with _ | _ | _ | t
        ·simp [upd, wcell, Wh.num, this]
        ·simp [upd, wcell, Wh.num, bjoin]
        ·simp [upd, wcell, Wh.num, bjoin]
        ·omega
       ·(repeat' (first | with_reducible exact HB.out.trans HX2.out | with_reducible exact HX2.out | with_reducible refine Below.setCell ?_ ?_ _ | with_reducible refine Below.alloc ?_ ?_ _ | (simp; done) | (simp; omega) | omega))
      case measure => simp [intOf]; omega
    ·have t1 := vbne_yes h1
     have t0 := vbeq_no h0
     have hres := HV.out
     rw [vany_err1 h0 h1] at hres
     have HRES := Lib.hid hres
     clear hres h0 h1 hIm
     go_wp2_with fail
     refine bodyPost_ret (v := .tuple #[.agg #[.int .i64 0, .int .i64 0, .int .i64 0], .int .i64 1]) ?_ rfl ⟨by rw [HRES.out]; rfl, ?_⟩
     ·simp [results, Tryz.results107, go_sem, *]
     ·(repeat' (first | with_reducible exact HBW.out | with_reducible refine Below.setCell ?_ ?_ _ | with_reducible refine Below.alloc ?_ ?_ _ | (simp; done) | (simp; omega) | omega))
  ·obtain rfl : i = m := by omega
   have hx0 := hIm.cell 0 (by omega)
   have hx1 := hIm.cell 1 (by omega)
   have hx2 := hIm.cell 2 (by omega)
   have hi0 : ¬ i = 0 := by omega
   simp only [hi0, if_false] at hx0 hx1 hx2
   have x0 : wr.cell? ⟨w1.heap.size + 1, 0, none⟩ = some (.int .i64 1) := hx0
   have x1 : wr.cell? ⟨w1.heap.size + 1, 1, none⟩ = some (.int .i64 acc.lo) := hx1
   have x2 : wr.cell? ⟨w1.heap.size + 1, 2, none⟩ = some (.int .i64 acc.hi) := hx2
   have k1 : ¬ kk ≤ H := by have := HH.out; omega
   have hres := HV.out
   rw [Nat.sub_self] at hres
   have HRES : Hid (vany s.slots i q (s.slots q).b = (Wh.num acc, 0)) := hres
   clear hv hacc hB hkk hIm hx0 hx1 hx2 hres
   go_wp2_with fail
   refine bodyPost_ret (v := .tuple #[.agg #[.int .i64 1, .int .i64 acc.lo, .int .i64 acc.hi], .int .i64 0]) ?_ rfl ⟨by rw [HRES.out]; rfl, ?_⟩
   ·simp [results, Tryz.results107, go_sem, *]
   ·(repeat' (first | with_reducible exact HBW.out | with_reducible refine Below.setCell ?_ ?_ _ | with_reducible refine Below.alloc ?_ ?_ _ | (simp; done) | (simp; omega) | omega))
theorem VLoad_any (b : Nat) (s : VS) (w : World) (hI : P.Img w b 81 (simg wcell s)) (a : Wh) (ha : WOk a) (o : Int) (ho : In64 o) :
  Calls Tryz.prog 107 #[.pointer (some ⟨b, 0, none⟩), .agg #[.int .i64 a.kind, .int .i64 a.b.lo, .int .i64 a.b.hi], .int .i64 o] w fun e w' =>
   e = .returned (.tuple #[.agg #[.int .i64 (s.load a o).1.kind, .int .i64 (s.load a o).1.b.lo, .int .i64 (s.load a o).1.b.hi], .int .i64 (s.load a o).2]) ∧ Below w.heap.size w w' := by
 by_cases he : (vfar a o).2 = 0
 ·have hk := vfar_kind ha he
  obtain ⟨-, hlo, hhi⟩ := vfar_at ha he
  have hok := vfar_ok ha ho
  unfold VS.load
  rw [if_neg (by simp [he])]
  obtain ⟨k, ⟨l, h⟩⟩ := a
  simp only at hk
  generalize hv : vfar ⟨k, ⟨l, h⟩⟩ o = v at *
  obtain ⟨⟨L, H⟩, er⟩ := v
  simp only at he hlo hhi hok ⊢
  subst he
  by_cases h3 : k = 3
  ·subst h3
   rw [if_neg (by simp)]
   simp only [low, high, if_true] at hlo hhi
   have hLH := hok.2.2
   simp only at hLH
   by_cases hl : L = H
   ·subst hl
    rw [if_pos rfl]
    obtain ⟨q, hq⟩ := Int.eq_ofNat_of_zero_le (show 0 ≤ L + 16 by omega)
    have e : (L + 16).toNat = q := by omega
    rw [e]
    obtain rfl : L = (q : Int) - 16 := by omega
    refine (VLoad_one b s w hI l h ha.2 o ho q (by omega) hv (s.slots q) rfl).mono fun e w' he => ⟨he.1.trans ?_, he.2⟩
    split <;> rfl
   ·rw [if_neg hl]
    obtain ⟨q, hq⟩ := Int.eq_ofNat_of_zero_le (show 0 ≤ L + 16 by omega)
    obtain ⟨m, hm⟩ := Int.eq_ofNat_of_zero_le (show 0 ≤ H - L + 1 by omega)
    have e : (L + 16).toNat = q := by omega
    have e2 : (H - L + 1).toNat = m := by omega
    rw [e, e2]
    exact VLoad_many b s w hI l h ha.2 o ho q m L H hq (by omega) (by omega) (by omega) hv
  ·rw [if_pos h3]
   exact VLoad_told b s w k l h (by omega) ha.2 o ho _ hv
 ·have e : s.load a o = (.nil, (vfar a o).2) := by unfold VS.load; rw [if_pos he]
  rw [e]
  exact VLoad_err b s w a ha o ho (vfar a o).1 (vfar a o).2 rfl he
end Go.Proofs.YtpdlmbbgioenoaaGreatDoor.W
namespace Go.Proofs.YtpdlmbbgioenoaaGreatDoor.W
open Go.RowKit Go.Proofs.YtpdlmbbgioenoaaGreatDoor.P
set_option maxHeartbeats 1000000 in
theorem VStore_err (b : Nat) (w : World) (a x : Wh) (ha : WOk a) (o : Int) (ho : In64 o) (d : B) (er : Int) (hke : vfar a o = (d, er)) (he : er ≠ 0) :
  Calls Tryz.prog 108 #[.pointer (some ⟨b, 0, none⟩), .agg #[.int .i64 a.kind, .int .i64 a.b.lo, .int .i64 a.b.hi], .int .i64 o, .agg #[.int .i64 x.kind, .int .i64 x.b.lo, .int .i64 x.b.hi]] w fun e w' =>
   e = .returned (.int .i64 er) ∧ Below w.heap.size w w' := by
 have HW0 := Lib.hid (Below.refl w.heap.size w)
 have C := Lib.hid (fun w => VFar_any a o ha ho w)
 have HK := Lib.hid hke
 have he2 := vbne_yes he
 clear hke he ha ho
 go_enter Tryz.func108, Tryz.ntmps108
 go_wp2_with fail
 refine (C.out _).mono ?_
 rw [HK.out]
 (rintro e w1 ⟨rfl, hb⟩; obtain ⟨hc1, hf1⟩ := bcell hb; have hz1 := hb.size; (try simp at hz1); have HW1 := Lib.hid (show Below w.heap.size w w1 from Below.trans (by repeat' (first | with_reducible (first | exact HW0.out | apply bR | apply bD | apply bN | apply bA | apply bS) | (simp; done) | (simp; omega) | omega)) (hb.mono (by first | omega | simp <;> omega))); clear hb; (try have z10 : w.heap.size < w1.heap.size := by omega); (try have z11 : w.heap.size + 1 < w1.heap.size := by omega); (try have z12 : w.heap.size + 1 + 1 < w1.heap.size := by omega))
 clear hc1 hf1
 go_wp2_with fail
 go_ret
 exact ⟨rfl, (by repeat' (first | with_reducible (first | exact HW1.out | apply bR | apply bD | apply bN | apply bA | apply bS) | (simp; done) | (simp; omega) | omega))⟩
set_option maxHeartbeats 1000000 in
theorem VStore_flat (b : Nat) (w : World) (k l h : Int) (x : Wh) (ha : B.Ok ⟨l, h⟩) (hk : k = 2 ∨ k = 3 ∨ k = 4) (o : Int) (ho : In64 o) (L H r : Int) (hke : vfar ⟨k, ⟨l, h⟩⟩ o = (⟨L, H⟩, 0))
  (hr : (k = 2 ∧ r = 6) ∨ (k ≠ 2 ∧ x.kind = 0 ∧ r = 8) ∨ (k = 4 ∧ x.kind ≠ 0 ∧ x.kind ≠ 1 ∧ r = 1) ∨ (k = 4 ∧ x.kind = 1 ∧ r = 0) ∨ (k = 3 ∧ x.kind ≠ 0 ∧ L ≠ H ∧ r = 2)) :
  Calls Tryz.prog 108 #[.pointer (some ⟨b, 0, none⟩), .agg #[.int .i64 k, .int .i64 l, .int .i64 h], .int .i64 o, .agg #[.int .i64 x.kind, .int .i64 x.b.lo, .int .i64 x.b.hi]] w fun e w' =>
   e = .returned (.int .i64 r) ∧ Below w.heap.size w w' := by
 have HW0 := Lib.hid (Below.refl w.heap.size w)
 have C := Lib.hid (fun w => VFar_any ⟨k, ⟨l, h⟩⟩ o ⟨by simp only; omega, ha⟩ ho w)
 have HK := Lib.hid hke
 clear hke ha ho
 obtain ⟨xk, ⟨xl, xh⟩⟩ := x
 simp only at hr
 rcases hr with ⟨rfl, rfl⟩ | ⟨h2, rfl, rfl⟩ | ⟨rfl, h0, h1, rfl⟩ | ⟨rfl, rfl, rfl⟩ | ⟨rfl, h0, h1, rfl⟩
 all_goals (try (have t0 := vbeq_no h0)); (try (have t1 := vbne_yes h1)); (try (have t2 := vbeq_no h2)); (try clear h0); (try clear h1); (try clear h2)
 all_goals
  clear hk
  go_enter Tryz.func108, Tryz.ntmps108
  go_wp2_with fail
  refine (C.out _).mono ?_
  rw [HK.out]
  rintro e w1 ⟨rfl, hb⟩
  obtain ⟨hc1, hf1⟩ := bcell hb
  have hz1 := hb.size
  simp at hz1
  have HW1 := Lib.hid (show Below w.heap.size w w1 from Below.trans (by repeat' (first | with_reducible (first | exact HW0.out | apply bR | apply bD | apply bN | apply bA | apply bS) | (simp; done) | (simp; omega) | omega)) (hb.mono (by first | omega | simp <;> omega)))
  clear hb
  have z10 : w.heap.size < w1.heap.size := by omega
  have z11 : w.heap.size + 1 < w1.heap.size := by omega
  have A0 := (hc1 w.heap.size 0 (by first | omega | simp <;> omega)).trans (show _ = some _ by simp [go_sem]; rfl)
  have B0 := (hc1 (w.heap.size + 1) 0 (by first | omega | simp <;> omega)).trans (show _ = some _ by simp [go_sem]; rfl)
  clear hc1 hf1
  go_wp2_with fail
  go_ret
  exact ⟨rfl, (by repeat' (first | with_reducible (first | exact HW1.out | apply bR | apply bD | apply bN | apply bA | apply bS) | (simp; done) | (simp; omega) | omega))⟩
set_option maxHeartbeats 1000000 in
theorem VStore_slot (b : Nat) (s : VS) (w : World) (hI : P.Img w b 81 (simg wcell s)) (l h : Int) (ha : B.Ok ⟨l, h⟩) (o : Int) (ho : In64 o) (x : Wh) (hx : x.kind ≠ 0) (q : Nat) (hq : q < 16) (hke : vfar ⟨3, ⟨l, h⟩⟩ o = (⟨(q : Int) - 16, (q : Int) - 16⟩, 0)) :
  Calls Tryz.prog 108 #[.pointer (some ⟨b, 0, none⟩), .agg #[.int .i64 3, .int .i64 l, .int .i64 h], .int .i64 o, .agg #[.int .i64 x.kind, .int .i64 x.b.lo, .int .i64 x.b.hi]] w fun e w' =>
   e = .returned (.int .i64 0) ∧ P.Img w' b 81 (simg wcell { s with slots := upd s.slots q x }) ∧ But b w w' := by
 have HW0 := Lib.hid (Below.refl w.heap.size w)
 have hlt := hI.lt (by omega)
 have C := Lib.hid (fun w => VFar_any ⟨3, ⟨l, h⟩⟩ o ⟨by simp, ha⟩ ho w)
 have q7 : (q : Int) < 16 := by omega
 have HI := Lib.hid hI
 have HK := Lib.hid hke
 clear hI hke ha ho
 have e16 : (q : Int) - 16 + 16 = q := by omega
 have e3 := vbeq_no hx
 clear hx
 obtain ⟨xk, ⟨xl, xh⟩⟩ := x
 simp only at e3 ⊢
 go_enter Tryz.func108, Tryz.ntmps108
 go_wp2_with fail
 refine (C.out _).mono ?_
 rw [HK.out]
 (rintro e w1 ⟨rfl, hb⟩; obtain ⟨hc1, hf1⟩ := bcell hb; have hz1 := hb.size; (try simp at hz1); have HW1 := Lib.hid (show Below w.heap.size w w1 from Below.trans (by repeat' (first | with_reducible (first | exact HW0.out | apply bR | apply bD | apply bN | apply bA | apply bS) | (simp; done) | (simp; omega) | omega)) (hb.mono (by first | omega | simp <;> omega))); clear hb; (try have z10 : w.heap.size < w1.heap.size := by omega); (try have z11 : w.heap.size + 1 < w1.heap.size := by omega); (try have z12 : w.heap.size + 1 + 1 < w1.heap.size := by omega))
 (have k1_w_heap_size_0 : w1.cell? ⟨w.heap.size, 0, none⟩ = some (.int .i64 3) := (by rw [hc1 _ _ (by first | omega | simp <;> omega)]; first | (simp [go_sem]; done) | assumption | (simp [go_sem, *]; done)); have r1_w_heap_size_0 : w1.frozen? ⟨w.heap.size, 0, none⟩ = false := (by rw [hf1 _ _ (by first | omega | simp <;> omega)]; first | (simp [go_sem]; done) | assumption | (simp [go_sem, *]; done)); have k1_w_heap_size_1 : w1.cell? ⟨w.heap.size, 1, none⟩ = some (.int .i64 l) := (by rw [hc1 _ _ (by first | omega | simp <;> omega)]; first | (simp [go_sem]; done) | assumption | (simp [go_sem, *]; done)); have r1_w_heap_size_1 : w1.frozen? ⟨w.heap.size, 1, none⟩ = false := (by rw [hf1 _ _ (by first | omega | simp <;> omega)]; first | (simp [go_sem]; done) | assumption | (simp [go_sem, *]; done)); have k1_w_heap_size_2 : w1.cell? ⟨w.heap.size, 2, none⟩ = some (.int .i64 h) := (by rw [hc1 _ _ (by first | omega | simp <;> omega)]; first | (simp [go_sem]; done) | assumption | (simp [go_sem, *]; done)); have r1_w_heap_size_2 : w1.frozen? ⟨w.heap.size, 2, none⟩ = false := (by rw [hf1 _ _ (by first | omega | simp <;> omega)]; first | (simp [go_sem]; done) | assumption | (simp [go_sem, *]; done)))
 (have k1_w_heap_size_1_0 : w1.cell? ⟨w.heap.size + 1, 0, none⟩ = some (.int .i64 xk) := (by rw [hc1 _ _ (by first | omega | simp <;> omega)]; first | (simp [go_sem]; done) | assumption | (simp [go_sem, *]; done)); have r1_w_heap_size_1_0 : w1.frozen? ⟨w.heap.size + 1, 0, none⟩ = false := (by rw [hf1 _ _ (by first | omega | simp <;> omega)]; first | (simp [go_sem]; done) | assumption | (simp [go_sem, *]; done)); have k1_w_heap_size_1_1 : w1.cell? ⟨w.heap.size + 1, 1, none⟩ = some (.int .i64 xl) := (by rw [hc1 _ _ (by first | omega | simp <;> omega)]; first | (simp [go_sem]; done) | assumption | (simp [go_sem, *]; done)); have r1_w_heap_size_1_1 : w1.frozen? ⟨w.heap.size + 1, 1, none⟩ = false := (by rw [hf1 _ _ (by first | omega | simp <;> omega)]; first | (simp [go_sem]; done) | assumption | (simp [go_sem, *]; done)); have k1_w_heap_size_1_2 : w1.cell? ⟨w.heap.size + 1, 2, none⟩ = some (.int .i64 xh) := (by rw [hc1 _ _ (by first | omega | simp <;> omega)]; first | (simp [go_sem]; done) | assumption | (simp [go_sem, *]; done)); have r1_w_heap_size_1_2 : w1.frozen? ⟨w.heap.size + 1, 2, none⟩ = false := (by rw [hf1 _ _ (by first | omega | simp <;> omega)]; first | (simp [go_sem]; done) | assumption | (simp [go_sem, *]; done)))
 have I1 := HI.out.later HW1.out hlt
 have d0 := I1.cell (33 + q * 3) (by omega)
 have d1 := I1.cell (33 + q * 3 + 1) (by omega)
 have d2 := I1.cell (33 + q * 3 + 2) (by omega)
 have s0 := I1.free (33 + q * 3) (by omega)
 have s1 := I1.free (33 + q * 3 + 1) (by omega)
 have s2 := I1.free (33 + q * 3 + 2) (by omega)
 have zb1 : b < w1.heap.size := I1.lt (by omega)
 have zb2 : b < w1.heap.size + 1 := by omega
 have HI1 := Lib.hid I1
 clear hc1 hf1 I1
 go_wp2_with fail
 go_region
 all_goals
  go_wp2_with fail
  go_ret
  refine ⟨rfl, ?_, (by repeat' (first | with_reducible (first | exact (But.of HW1.out) | exact But.refl _ _ | refine But.drew ?_ | refine But.drewN ?_ _ | refine But.alloc ?_ _ | refine But.setCell ?_ ?_ _) | (exact .inl rfl) | (simp; done) | (simp; omega) | omega))⟩
  have K := fun o => Img.alloc ((((HI1.out.set (j := 33 + q * 3) (by omega) (wcell ⟨xk, ⟨xl, xh⟩⟩ 0)).set (j := 33 + q * 3 + 1) (by omega) (wcell ⟨xk, ⟨xl, xh⟩⟩ 1)).set (j := 33 + q * 3 + 2) (by omega) (wcell ⟨xk, ⟨xl, xh⟩⟩ 2)).congr (simg_setslot hq ⟨xk, ⟨xl, xh⟩⟩)) o
  first | exact K _ | exact (K _).drew
theorem VStore_any (b : Nat) (s : VS) (w : World) (hI : P.Img w b 81 (simg wcell s)) (a : Wh) (ha : WOk a) (o : Int) (ho : In64 o) (x : Wh) :
  Calls Tryz.prog 108 #[.pointer (some ⟨b, 0, none⟩), .agg #[.int .i64 a.kind, .int .i64 a.b.lo, .int .i64 a.b.hi], .int .i64 o, .agg #[.int .i64 x.kind, .int .i64 x.b.lo, .int .i64 x.b.hi]] w fun e w' =>
   e = .returned (.int .i64 (s.store a o x).2) ∧ P.Img w' b 81 (simg wcell (s.store a o x).1) ∧ But b w w' := by
 have hlt := hI.lt (by omega)
 have flat : ∀ {r : Int} {w' : World} {e : Ending}, e = .returned (.int .i64 r) ∧ Below w.heap.size w w' → e = .returned (.int .i64 r) ∧ P.Img w' b 81 (simg wcell s) ∧ But b w w' := fun h => ⟨h.1, hI.later h.2 hlt, But.of h.2⟩
 by_cases he : (vfar a o).2 = 0
 ·have hk := vfar_kind ha he
  obtain ⟨-, hlo, hhi⟩ := vfar_at ha he
  have hok := vfar_ok ha ho
  unfold VS.store
  rw [if_neg (by simp [he])]
  obtain ⟨k, ⟨l, h⟩⟩ := a
  simp only at hk
  generalize hv : vfar ⟨k, ⟨l, h⟩⟩ o = v at *
  obtain ⟨⟨L, H⟩, er⟩ := v
  simp only at he hlo hhi hok ⊢
  subst he
  by_cases h2 : k = 2
  ·rw [if_pos h2]
   exact (VStore_flat b w k l h x ha.2 hk o ho L H 6 hv (.inl ⟨h2, rfl⟩)).mono fun e w' => flat
  rw [if_neg h2]
  by_cases h0 : x.kind = 0
  ·rw [if_pos h0]
   exact (VStore_flat b w k l h x ha.2 hk o ho L H 8 hv (.inr (.inl ⟨h2, h0, rfl⟩))).mono fun e w' => flat
  rw [if_neg h0]
  by_cases h4 : k = 4
  ·by_cases h1 : x.kind = 1
   ·rw [if_neg (by omega), if_pos h4]
    exact (VStore_flat b w k l h x ha.2 hk o ho L H 0 hv (.inr (.inr (.inr (.inl ⟨h4, h1, rfl⟩))))).mono fun e w' => flat
   ·rw [if_pos ⟨h4, h1⟩]
    exact (VStore_flat b w k l h x ha.2 hk o ho L H 1 hv (.inr (.inr (.inl ⟨h4, h0, h1, rfl⟩)))).mono fun e w' => flat
  rw [if_neg (by omega), if_neg h4]
  have h3 : k = 3 := by omega
  subst h3
  by_cases hl : L = H
  ·subst hl
   rw [if_neg (by simp)]
   simp only [low, high, if_true] at hlo hhi
   obtain ⟨q, hq⟩ := Int.eq_ofNat_of_zero_le (show 0 ≤ L + 16 by omega)
   have e : (L + 16).toNat = q := by omega
   rw [e]
   obtain rfl : L = (q : Int) - 16 := by omega
   exact VStore_slot b s w hI l h ha.2 o ho x h0 q (by omega) hv
  ·rw [if_pos hl]
   exact (VStore_flat b w 3 l h x ha.2 hk o ho L H 2 hv (.inr (.inr (.inr (.inr ⟨rfl, h0, hl, rfl⟩))))).mono fun e w' => flat
 ·have e : s.store a o x = (s, (vfar a o).2) := by unfold VS.store; rw [if_pos he]
  rw [e]
  exact (VStore_err b w a x ha o ho (vfar a o).1 (vfar a o).2 rfl he).mono fun e w' => flat
end Go.Proofs.YtpdlmbbgioenoaaGreatDoor.W
namespace Go.Proofs.YtpdlmbbgioenoaaGreatDoor.W
open Go.RowKit Go.Proofs.YtpdlmbbgioenoaaGreatDoor.P
theorem vupd_upd {α : Type} (f : Nat → α) (i : Nat) (u v : α) : upd (upd f i u) i v = upd f i v := by
 funext j; by_cases h : j = i
 ·subst h; rw [upd_same, upd_same]
 ·rw [upd_other h, upd_other h, upd_other h]
def vclr (f : Nat → Wh) (k : Nat) : Nat → Wh := fun j => if 1 ≤ j ∧ j < k then Wh.nil else f j
theorem vclr_1 (f : Nat → Wh) : vclr f 1 = f := by funext j; unfold vclr; rw [if_neg (by omega)]
theorem vclr_succ (f : Nat → Wh) {k : Nat} (hk : 1 ≤ k) : upd (vclr f k) k Wh.nil = vclr f (k + 1) := by
 funext j
 by_cases h : j = k
 ·subst h; rw [upd_same]; unfold vclr; rw [if_pos (by omega)]
 ·rw [upd_other h]; unfold vclr
  by_cases h2 : 1 ≤ j ∧ j < k
  ·rw [if_pos h2, if_pos (by omega)]
  ·rw [if_neg h2, if_neg (by omega)]
def vret (n : Int) : Wh := if n = 1 then ⟨5, bone 0⟩ else if n = 3 then .num (bone 0) else .num ball
theorem vcall_ok {s : VS} {n : Int} (h : n = 2 ∨ (s.regs 1).kind = 1) : s.call n = ({ s with regs := upd (vclr s.regs 6) 0 (vret n) }, 0) := by
 unfold VS.call
 rw [if_neg (by omega), if_neg (by omega)]
 congr 2
 funext j
 by_cases h0 : j = 0
 ·subst h0; rw [upd_same]; rfl
 ·rw [upd_other h0, if_neg h0]; unfold vclr; simp only [Nat.lt_succ_iff]
set_option maxHeartbeats 1000000 in
theorem VCall_err (b : Nat) (s : VS) (w : World) (hI : P.Img w b 81 (simg wcell s)) (n : Int) (hn : n ≠ 2) (x : Wh) (hx : s.regs 1 = x) (hk : x.kind ≠ 1) :
  Calls Tryz.prog 110 #[.pointer (some ⟨b, 0, none⟩), .int .i64 n] w fun e w' => e = .returned (.int .i64 (if x.kind = 0 then 8 else 1)) ∧ Below w.heap.size w w' := by
 have HW0 := Lib.hid (Below.refl w.heap.size w)
 obtain ⟨c0, c1, c2⟩ := rcells hI (by omega : 1 < 11)
 rw [hx] at c0 c1 c2
 have HI := Lib.hid hI
 have HX := Lib.hid hx
 clear hI hx
 have n2 := vbne_yes hn
 have k2 := vbeq_no hk
 clear hn hk
 by_cases k1 : x.kind = 0
 ·rw [if_pos k1]
  have q1 := vbeq_yes k1
  clear k1
  go_enter Tryz.func110, Tryz.ntmps110
  go_wp2_with fail
  go_ret
  exact ⟨rfl, (by repeat' (first | with_reducible (first | exact HW0.out | apply bR | apply bD | apply bN | apply bA | apply bS) | (simp; done) | (simp; omega) | omega))⟩
 ·rw [if_neg k1]
  have q1 := vbeq_no k1
  clear k1
  go_enter Tryz.func110, Tryz.ntmps110
  go_wp2_with fail
  go_ret
  exact ⟨rfl, (by repeat' (first | with_reducible (first | exact HW0.out | apply bR | apply bD | apply bN | apply bA | apply bS) | (simp; done) | (simp; omega) | omega))⟩
set_option maxHeartbeats 4000000 in
theorem VCall_1 (b : Nat) (s : VS) (w : World) (hI : P.Img w b 81 (simg wcell s)) (x : Wh) (hx : s.regs 1 = x) (hk : x.kind = 1) :
  Calls Tryz.prog 110 #[.pointer (some ⟨b, 0, none⟩), .int .i64 1] w fun e w' => e = .returned (.int .i64 0) ∧ P.Img w' b 81 (simg wcell { s with regs := upd (vclr s.regs 6) 0 (vret 1) }) ∧ But b w w' := by
 have HW0 := Lib.hid (Below.refl w.heap.size w)
 have hlt := hI.lt (by omega)
 obtain ⟨c0, c1, c2⟩ := rcells hI (by omega : 1 < 11)
 rw [hx] at c0 c1 c2
 have HI := Lib.hid hI
 clear hI hx
 have q1 := vbeq_yes hk; have q0 := vbeq_no (show x.kind ≠ 0 by omega)
 clear hk
 have CA := Lib.hid (show ∀ wd dr os, Calls Tryz.prog 148 #[] (Go.Sort.grow (redrawn wd dr) os) fun e w' => e = .returned (.agg #[.int .i64 (-9223372036854775808), .int .i64 9223372036854775807]) ∧ ∃ p : Regrown, w' = Go.Sort.grow (redrawn wd p.d) p.os from fun wd dr os => Calls.regrown_of (All_any _))
 have CN := Lib.hid (show ∀ lo hi wd dr os, Calls Tryz.prog 112 #[.agg #[.int .i64 lo, .int .i64 hi]] (Go.Sort.grow (redrawn wd dr) os) fun e w' => e = .returned (.agg #[.int .i64 1, .int .i64 lo, .int .i64 hi]) ∧ ∃ p : Regrown, w' = Go.Sort.grow (redrawn wd p.d) p.os from fun lo hi wd dr os => Calls.regrown_of (VNumber_any lo hi _))
 have CO := Lib.hid (show ∀ wd dr os, Calls Tryz.prog 60 #[.int .i64 0] (Go.Sort.grow (redrawn wd dr) os) fun e w' => e = .returned (.agg #[.int .i64 0, .int .i64 0]) ∧ ∃ p : Regrown, w' = Go.Sort.grow (redrawn wd p.d) p.os from fun wd dr os => Calls.regrown_of (One_any 0 _))
 go_enter Tryz.func110, Tryz.ntmps110
 go_wp2_with fail
 go_loopw [6] (fun i wr => ∃ k : Nat, 1 ≤ k ∧ k ≤ 6 ∧ i = .int .i64 k ∧ P.Img wr b 81 (simg wcell { s with regs := vclr s.regs k }) ∧ But b w wr) (fun i _ => 6 - (intOf i).toNat)
 case atStart => exact ⟨1, by omega, by omega, rfl, by rw [vclr_1]; exact HI.out.alloc _, (by repeat' (first | with_reducible (first | exact (But.of HW0.out) | exact But.refl _ _ | refine But.drew ?_ | refine But.drewN ?_ _ | refine But.alloc ?_ _ | refine But.setCell ?_ ?_ _) | (exact .inl rfl) | (simp; done) | (simp; omega) | omega))⟩
 case round =>
  obtain ⟨k, hk1, hk6, rfl, hI, hB⟩ := hrel
  by_cases h : k ≤ 5
  ·have i1 : (k : Int) ≤ 5 := by omega
   have i2 : (k : Int) < 11 := by omega
   have d0 := hI.cell (k * 3) (by omega)
   have d1 := hI.cell (k * 3 + 1) (by omega)
   have d2 := hI.cell (k * 3 + 2) (by omega)
   have s0 := hI.free (k * 3) (by omega)
   have s1 := hI.free (k * 3 + 1) (by omega)
   have s2 := hI.free (k * 3 + 2) (by omega)
   have HI1 := Lib.hid hI
   have HB1 := Lib.hid hB
   clear hI hB
   go_wp2_with fail
   go_roundw
   case rel =>
    go_light
    refine ⟨k + 1, by omega, by omega, by go_num, ?_, ?_⟩
    ·have K := (((HI1.out.set (j := k * 3) (by omega) (wcell Wh.nil 0)).set (j := k * 3 + 1) (by omega) (wcell Wh.nil 1)).set (j := k * 3 + 2) (by omega) (wcell Wh.nil 2)).congr (simg_setreg (by omega : k < 11) Wh.nil)
     rw [← vclr_succ _ hk1]
     exact K
    ·exact ((HB1.out.setCell (.inl rfl) _).setCell (.inl rfl) _).setCell (.inl rfl) _
   case measure => simp [intOf]; omega
  ·obtain rfl : k = 6 := by omega
   have HI1 := Lib.hid hI
   have HB1 := Lib.hid hB
   have zb := hI.lt (by omega)
   clear hI hB
   go_wp2_with fail
   refine wp_below_tail 6 (by kernel_rfl) (by kernel_rfl) ?_
   repeat (quiet_step (first | exact CA.out _ _ _ | exact CN.out _ _ _ _ _))
   refine wpQuiet_nil ?_
   intro wq hwq
   have hbq : Below wr.heap.size wr wq := by
    obtain ⟨p, hp⟩ := hwq
    rw [hp]; exact below_regrown _ _ _
   clear hwq
   have IQ := HI1.out.later hbq zb
   have HIQ := Lib.hid IQ
   have HBQ := Lib.hid (HB1.out.trans (But.of hbq))
   have d0 := IQ.cell 0 (by omega)
   have d1 := IQ.cell 1 (by omega)
   have d2 := IQ.cell 2 (by omega)
   have s0 := IQ.free 0 (by omega)
   have s1 := IQ.free 1 (by omega)
   have s2 := IQ.free 2 (by omega)
   clear hbq IQ
   go_wp2_with fail
   generalize hW : World.setCell (World.setCell (World.setCell wq _ _) _ _) _ _ = wx
   have K1 : P.Img wx b 81 (simg wcell { s with regs := upd (vclr s.regs 6) 0 (.num ball) }) := by
    rw [← hW]
    have K := (((HIQ.out.set (j := 0) (by omega) (wcell (.num ball) 0)).set (j := 1) (by omega) (wcell (.num ball) 1)).set (j := 2) (by omega) (wcell (.num ball) 2)).congr (simg_setreg (by omega : 0 < 11) (.num ball))
    exact K
   have HK1 := Lib.hid K1
   have HB2 := Lib.hid (show But b w wx from hW ▸ ((HBQ.out.setCell (.inl rfl) _).setCell (.inl rfl) _).setCell (.inl rfl) _)
   clear K1 hW
   clear d0 d1 d2 s0 s1 s2
   have zx := HK1.out.lt (by omega)
   refine wp_below_tail 6 (by kernel_rfl) (by kernel_rfl) ?_
   repeat (quiet_step (first | exact CO.out _ _ _ | exact CN.out _ _ _ _ _))
   refine wpQuiet_nil ?_
   intro wz hwz
   have hbz : Below wx.heap.size wx wz := by
    obtain ⟨p, hp⟩ := hwz
    rw [hp]; exact below_regrown _ _ _
   clear hwz
   have IZ := HK1.out.later hbz zx
   have HIZ := Lib.hid IZ
   have HBZ := Lib.hid (HB2.out.trans (But.of hbz))
   have d0 := IZ.cell 0 (by omega)
   have d1 := IZ.cell 1 (by omega)
   have d2 := IZ.cell 2 (by omega)
   have s0 := IZ.free 0 (by omega)
   have s1 := IZ.free 1 (by omega)
   have s2 := IZ.free 2 (by omega)
   clear hbz IZ
   go_wp2_with fail
   go_ret
   refine ⟨rfl, ?_, ?_⟩
   ·have K := (((HIZ.out.set (j := 0) (by omega) (wcell (⟨5, bone 0⟩ : Wh) 0)).set (j := 1) (by omega) (wcell (⟨5, bone 0⟩ : Wh) 1)).set (j := 2) (by omega) (wcell (⟨5, bone 0⟩ : Wh) 2)).congr (simg_setreg (by omega : 0 < 11) (⟨5, bone 0⟩ : Wh))
    dsimp only at K
    rw [vupd_upd] at K
    exact K
   ·exact ((HBZ.out.setCell (.inl rfl) _).setCell (.inl rfl) _).setCell (.inl rfl) _
set_option maxHeartbeats 4000000 in
theorem VCall_2 (b : Nat) (s : VS) (w : World) (hI : P.Img w b 81 (simg wcell s)) (x : Wh) (hx : s.regs 1 = x) :
  Calls Tryz.prog 110 #[.pointer (some ⟨b, 0, none⟩), .int .i64 2] w fun e w' => e = .returned (.int .i64 0) ∧ P.Img w' b 81 (simg wcell { s with regs := upd (vclr s.regs 6) 0 (vret 2) }) ∧ But b w w' := by
 have HW0 := Lib.hid (Below.refl w.heap.size w)
 have hlt := hI.lt (by omega)
 obtain ⟨c0, c1, c2⟩ := rcells hI (by omega : 1 < 11)
 rw [hx] at c0 c1 c2
 have HI := Lib.hid hI
 clear hI hx
 have CA := Lib.hid (show ∀ wd dr os, Calls Tryz.prog 148 #[] (Go.Sort.grow (redrawn wd dr) os) fun e w' => e = .returned (.agg #[.int .i64 (-9223372036854775808), .int .i64 9223372036854775807]) ∧ ∃ p : Regrown, w' = Go.Sort.grow (redrawn wd p.d) p.os from fun wd dr os => Calls.regrown_of (All_any _))
 have CN := Lib.hid (show ∀ lo hi wd dr os, Calls Tryz.prog 112 #[.agg #[.int .i64 lo, .int .i64 hi]] (Go.Sort.grow (redrawn wd dr) os) fun e w' => e = .returned (.agg #[.int .i64 1, .int .i64 lo, .int .i64 hi]) ∧ ∃ p : Regrown, w' = Go.Sort.grow (redrawn wd p.d) p.os from fun lo hi wd dr os => Calls.regrown_of (VNumber_any lo hi _))
 have CO := Lib.hid (show ∀ wd dr os, Calls Tryz.prog 60 #[.int .i64 0] (Go.Sort.grow (redrawn wd dr) os) fun e w' => e = .returned (.agg #[.int .i64 0, .int .i64 0]) ∧ ∃ p : Regrown, w' = Go.Sort.grow (redrawn wd p.d) p.os from fun wd dr os => Calls.regrown_of (One_any 0 _))
 go_enter Tryz.func110, Tryz.ntmps110
 go_wp2_with fail
 go_loopw [6] (fun i wr => ∃ k : Nat, 1 ≤ k ∧ k ≤ 6 ∧ i = .int .i64 k ∧ P.Img wr b 81 (simg wcell { s with regs := vclr s.regs k }) ∧ But b w wr) (fun i _ => 6 - (intOf i).toNat)
 case atStart => exact ⟨1, by omega, by omega, rfl, by rw [vclr_1]; exact HI.out.alloc _, (by repeat' (first | with_reducible (first | exact (But.of HW0.out) | exact But.refl _ _ | refine But.drew ?_ | refine But.drewN ?_ _ | refine But.alloc ?_ _ | refine But.setCell ?_ ?_ _) | (exact .inl rfl) | (simp; done) | (simp; omega) | omega))⟩
 case round =>
  obtain ⟨k, hk1, hk6, rfl, hI, hB⟩ := hrel
  by_cases h : k ≤ 5
  ·have i1 : (k : Int) ≤ 5 := by omega
   have i2 : (k : Int) < 11 := by omega
   have d0 := hI.cell (k * 3) (by omega)
   have d1 := hI.cell (k * 3 + 1) (by omega)
   have d2 := hI.cell (k * 3 + 2) (by omega)
   have s0 := hI.free (k * 3) (by omega)
   have s1 := hI.free (k * 3 + 1) (by omega)
   have s2 := hI.free (k * 3 + 2) (by omega)
   have HI1 := Lib.hid hI
   have HB1 := Lib.hid hB
   clear hI hB
   go_wp2_with fail
   go_roundw
   case rel =>
    go_light
    refine ⟨k + 1, by omega, by omega, by go_num, ?_, ?_⟩
    ·have K := (((HI1.out.set (j := k * 3) (by omega) (wcell Wh.nil 0)).set (j := k * 3 + 1) (by omega) (wcell Wh.nil 1)).set (j := k * 3 + 2) (by omega) (wcell Wh.nil 2)).congr (simg_setreg (by omega : k < 11) Wh.nil)
     rw [← vclr_succ _ hk1]
     exact K
    ·exact ((HB1.out.setCell (.inl rfl) _).setCell (.inl rfl) _).setCell (.inl rfl) _
   case measure => simp [intOf]; omega
  ·obtain rfl : k = 6 := by omega
   have HI1 := Lib.hid hI
   have HB1 := Lib.hid hB
   have zb := hI.lt (by omega)
   clear hI hB
   go_wp2_with fail
   refine wp_below_tail 6 (by kernel_rfl) (by kernel_rfl) ?_
   repeat (quiet_step (first | exact CA.out _ _ _ | exact CN.out _ _ _ _ _))
   refine wpQuiet_nil ?_
   intro wq hwq
   have hbq : Below wr.heap.size wr wq := by
    obtain ⟨p, hp⟩ := hwq
    rw [hp]; exact below_regrown _ _ _
   clear hwq
   have IQ := HI1.out.later hbq zb
   have HIQ := Lib.hid IQ
   have HBQ := Lib.hid (HB1.out.trans (But.of hbq))
   have d0 := IQ.cell 0 (by omega)
   have d1 := IQ.cell 1 (by omega)
   have d2 := IQ.cell 2 (by omega)
   have s0 := IQ.free 0 (by omega)
   have s1 := IQ.free 1 (by omega)
   have s2 := IQ.free 2 (by omega)
   clear hbq IQ
   go_wp2_with fail
   go_ret
   refine ⟨rfl, ?_, ?_⟩
   ·have K := (((HIQ.out.set (j := 0) (by omega) (wcell (.num ball) 0)).set (j := 1) (by omega) (wcell (.num ball) 1)).set (j := 2) (by omega) (wcell (.num ball) 2)).congr (simg_setreg (by omega : 0 < 11) (.num ball))
    exact K
   ·exact ((HBQ.out.setCell (.inl rfl) _).setCell (.inl rfl) _).setCell (.inl rfl) _
set_option maxHeartbeats 4000000 in
theorem VCall_3 (b : Nat) (s : VS) (w : World) (hI : P.Img w b 81 (simg wcell s)) (x : Wh) (hx : s.regs 1 = x) (hk : x.kind = 1) :
  Calls Tryz.prog 110 #[.pointer (some ⟨b, 0, none⟩), .int .i64 3] w fun e w' => e = .returned (.int .i64 0) ∧ P.Img w' b 81 (simg wcell { s with regs := upd (vclr s.regs 6) 0 (vret 3) }) ∧ But b w w' := by
 have HW0 := Lib.hid (Below.refl w.heap.size w)
 have hlt := hI.lt (by omega)
 obtain ⟨c0, c1, c2⟩ := rcells hI (by omega : 1 < 11)
 rw [hx] at c0 c1 c2
 have HI := Lib.hid hI
 clear hI hx
 have q1 := vbeq_yes hk; have q0 := vbeq_no (show x.kind ≠ 0 by omega)
 clear hk
 have CA := Lib.hid (show ∀ wd dr os, Calls Tryz.prog 148 #[] (Go.Sort.grow (redrawn wd dr) os) fun e w' => e = .returned (.agg #[.int .i64 (-9223372036854775808), .int .i64 9223372036854775807]) ∧ ∃ p : Regrown, w' = Go.Sort.grow (redrawn wd p.d) p.os from fun wd dr os => Calls.regrown_of (All_any _))
 have CN := Lib.hid (show ∀ lo hi wd dr os, Calls Tryz.prog 112 #[.agg #[.int .i64 lo, .int .i64 hi]] (Go.Sort.grow (redrawn wd dr) os) fun e w' => e = .returned (.agg #[.int .i64 1, .int .i64 lo, .int .i64 hi]) ∧ ∃ p : Regrown, w' = Go.Sort.grow (redrawn wd p.d) p.os from fun lo hi wd dr os => Calls.regrown_of (VNumber_any lo hi _))
 have CO := Lib.hid (show ∀ wd dr os, Calls Tryz.prog 60 #[.int .i64 0] (Go.Sort.grow (redrawn wd dr) os) fun e w' => e = .returned (.agg #[.int .i64 0, .int .i64 0]) ∧ ∃ p : Regrown, w' = Go.Sort.grow (redrawn wd p.d) p.os from fun wd dr os => Calls.regrown_of (One_any 0 _))
 go_enter Tryz.func110, Tryz.ntmps110
 go_wp2_with fail
 go_loopw [6] (fun i wr => ∃ k : Nat, 1 ≤ k ∧ k ≤ 6 ∧ i = .int .i64 k ∧ P.Img wr b 81 (simg wcell { s with regs := vclr s.regs k }) ∧ But b w wr) (fun i _ => 6 - (intOf i).toNat)
 case atStart => exact ⟨1, by omega, by omega, rfl, by rw [vclr_1]; exact HI.out.alloc _, (by repeat' (first | with_reducible (first | exact (But.of HW0.out) | exact But.refl _ _ | refine But.drew ?_ | refine But.drewN ?_ _ | refine But.alloc ?_ _ | refine But.setCell ?_ ?_ _) | (exact .inl rfl) | (simp; done) | (simp; omega) | omega))⟩
 case round =>
  obtain ⟨k, hk1, hk6, rfl, hI, hB⟩ := hrel
  by_cases h : k ≤ 5
  ·have i1 : (k : Int) ≤ 5 := by omega
   have i2 : (k : Int) < 11 := by omega
   have d0 := hI.cell (k * 3) (by omega)
   have d1 := hI.cell (k * 3 + 1) (by omega)
   have d2 := hI.cell (k * 3 + 2) (by omega)
   have s0 := hI.free (k * 3) (by omega)
   have s1 := hI.free (k * 3 + 1) (by omega)
   have s2 := hI.free (k * 3 + 2) (by omega)
   have HI1 := Lib.hid hI
   have HB1 := Lib.hid hB
   clear hI hB
   go_wp2_with fail
   go_roundw
   case rel =>
    go_light
    refine ⟨k + 1, by omega, by omega, by go_num, ?_, ?_⟩
    ·have K := (((HI1.out.set (j := k * 3) (by omega) (wcell Wh.nil 0)).set (j := k * 3 + 1) (by omega) (wcell Wh.nil 1)).set (j := k * 3 + 2) (by omega) (wcell Wh.nil 2)).congr (simg_setreg (by omega : k < 11) Wh.nil)
     rw [← vclr_succ _ hk1]
     exact K
    ·exact ((HB1.out.setCell (.inl rfl) _).setCell (.inl rfl) _).setCell (.inl rfl) _
   case measure => simp [intOf]; omega
  ·obtain rfl : k = 6 := by omega
   have HI1 := Lib.hid hI
   have HB1 := Lib.hid hB
   have zb := hI.lt (by omega)
   clear hI hB
   go_wp2_with fail
   refine wp_below_tail 6 (by kernel_rfl) (by kernel_rfl) ?_
   repeat (quiet_step (first | exact CA.out _ _ _ | exact CN.out _ _ _ _ _))
   refine wpQuiet_nil ?_
   intro wq hwq
   have hbq : Below wr.heap.size wr wq := by
    obtain ⟨p, hp⟩ := hwq
    rw [hp]; exact below_regrown _ _ _
   clear hwq
   have IQ := HI1.out.later hbq zb
   have HIQ := Lib.hid IQ
   have HBQ := Lib.hid (HB1.out.trans (But.of hbq))
   have d0 := IQ.cell 0 (by omega)
   have d1 := IQ.cell 1 (by omega)
   have d2 := IQ.cell 2 (by omega)
   have s0 := IQ.free 0 (by omega)
   have s1 := IQ.free 1 (by omega)
   have s2 := IQ.free 2 (by omega)
   clear hbq IQ
   go_wp2_with fail
   generalize hW : World.setCell (World.setCell (World.setCell wq _ _) _ _) _ _ = wx
   have K1 : P.Img wx b 81 (simg wcell { s with regs := upd (vclr s.regs 6) 0 (.num ball) }) := by
    rw [← hW]
    have K := (((HIQ.out.set (j := 0) (by omega) (wcell (.num ball) 0)).set (j := 1) (by omega) (wcell (.num ball) 1)).set (j := 2) (by omega) (wcell (.num ball) 2)).congr (simg_setreg (by omega : 0 < 11) (.num ball))
    exact K
   have HK1 := Lib.hid K1
   have HB2 := Lib.hid (show But b w wx from hW ▸ ((HBQ.out.setCell (.inl rfl) _).setCell (.inl rfl) _).setCell (.inl rfl) _)
   clear K1 hW
   clear d0 d1 d2 s0 s1 s2
   have zx := HK1.out.lt (by omega)
   refine wp_below_tail 6 (by kernel_rfl) (by kernel_rfl) ?_
   repeat (quiet_step (first | exact CO.out _ _ _ | exact CN.out _ _ _ _ _))
   refine wpQuiet_nil ?_
   intro wz hwz
   have hbz : Below wx.heap.size wx wz := by
    obtain ⟨p, hp⟩ := hwz
    rw [hp]; exact below_regrown _ _ _
   clear hwz
   have IZ := HK1.out.later hbz zx
   have HIZ := Lib.hid IZ
   have HBZ := Lib.hid (HB2.out.trans (But.of hbz))
   have d0 := IZ.cell 0 (by omega)
   have d1 := IZ.cell 1 (by omega)
   have d2 := IZ.cell 2 (by omega)
   have s0 := IZ.free 0 (by omega)
   have s1 := IZ.free 1 (by omega)
   have s2 := IZ.free 2 (by omega)
   clear hbz IZ
   go_wp2_with fail
   go_ret
   refine ⟨rfl, ?_, ?_⟩
   ·have K := (((HIZ.out.set (j := 0) (by omega) (wcell (.num (bone 0)) 0)).set (j := 1) (by omega) (wcell (.num (bone 0)) 1)).set (j := 2) (by omega) (wcell (.num (bone 0)) 2)).congr (simg_setreg (by omega : 0 < 11) (.num (bone 0)))
    dsimp only at K
    rw [vupd_upd] at K
    exact K
   ·exact ((HBZ.out.setCell (.inl rfl) _).setCell (.inl rfl) _).setCell (.inl rfl) _
theorem VCall_any (b : Nat) (s : VS) (w : World) (hI : P.Img w b 81 (simg wcell s)) (n : Int) (hn : 1 ≤ n ∧ n ≤ 3) :
  Calls Tryz.prog 110 #[.pointer (some ⟨b, 0, none⟩), .int .i64 n] w fun e w' => e = .returned (.int .i64 (s.call n).2) ∧ P.Img w' b 81 (simg wcell (s.call n).1) ∧ But b w w' := by
 have hlt := hI.lt (by omega)
 by_cases h : n = 2 ∨ (s.regs 1).kind = 1
 ·rw [vcall_ok h]
  have hn' : n = 1 ∨ n = 2 ∨ n = 3 := by omega
  rcases hn' with rfl | rfl | rfl
  ·exact VCall_1 b s w hI _ rfl (by omega)
  ·exact VCall_2 b s w hI _ rfl
  ·exact VCall_3 b s w hI _ rfl (by omega)
 ·have e : s.call n = (s, if (s.regs 1).kind = 0 then 8 else 1) := by
   unfold VS.call
   by_cases h0 : (s.regs 1).kind = 0
   ·rw [if_pos ⟨by omega, h0⟩, if_pos h0]
   ·rw [if_neg (by omega), if_pos (by omega), if_neg h0]
  rw [e]
  exact (VCall_err b s w hI n (by omega) _ rfl (by omega)).mono fun e w' h => ⟨h.1, hI.later h.2 hlt, But.of h.2⟩
end Go.Proofs.YtpdlmbbgioenoaaGreatDoor.W
namespace Go.Proofs.YtpdlmbbgioenoaaGreatDoor.W
open Go.RowKit Go.Proofs.YtpdlmbbgioenoaaGreatDoor.P
theorem wcells {w : World} {b : Nat} {v : Wh} (hI : P.Img w b 3 (wcell v)) : w.cell? ⟨b, 0, none⟩ = some (.int .i64 v.kind) ∧ w.cell? ⟨b, 1, none⟩ = some (.int .i64 v.b.lo) ∧ w.cell? ⟨b, 2, none⟩ = some (.int .i64 v.b.hi) :=
 ⟨hI.cell 0 (by omega), hI.cell 1 (by omega), hI.cell 2 (by omega)⟩
theorem w3 {w : World} {b : Nat} {v : Wh} {I : Nat → Value} (hI : P.Img w b 3 I) : P.Img (((w.setCell ⟨b, 0, none⟩ (.int .i64 v.kind)).setCell ⟨b, 1, none⟩ (.int .i64 v.b.lo)).setCell ⟨b, 2, none⟩ (.int .i64 v.b.hi)) b 3 (wcell v) := by
 refine (((hI.set (j := 0) (by omega) _).set (j := 1) (by omega) _).set (j := 2) (by omega) _).congr fun j hj => ?_
 rcases j with _ | _ | _ | j
 ·rfl
 ·rfl
 ·rfl
 ·omega
def wimg (code : Value) (k : Wk) : Nat → Value := fun j => if j = 0 then code else if j = 1 then .int .i64 k.looks else if j = 2 then .bool (!k.ends.isEmpty) else if j = 3 then .int .i64 (outOf k.ends).lo else .int .i64 (outOf k.ends).hi
def VPost (b : Nat) (code : Value) (w : World) (r : VR) (e : Ending) (w' : World) : Prop := ∃ v, e = .returned v ∧ ErrIs w' v r.1.1 r.1.2 ∧ P.Img w' b 5 (wimg code r.2) ∧ But b w w'
def WalkC (S : Nat → Step) (a : Addr) (n cap b f : Nat) : Prop := ∀ (s : VS) (pc : Nat) (k : Wk) (w : World), VSOk s → pc < n → n ≤ pc + f → 0 ≤ k.looks → k.looks ≤ 4000 → (∀ e ∈ k.ends, e.Ok) → Cells w a S n →
 P.Img w b 5 (wimg (.slice (some a) n cap) k) →
 Calls Tryz.prog 61 #[.pointer (some ⟨b, 0, none⟩), .agg (scells wcell s).toArray, .int .i64 pc] w (VPost b (.slice (some a) n cap) w (vwalk S f s pc k))
theorem size_state (s : VS) : (Tryz.prog.info? 160).map (·.size) = some (scells wcell s).length := by rw [scells_length]; kernel_rfl
theorem size_state' (s : VS) : (Tryz.prog.info? 160).map (·.size) = some (scells wcell s).toArray.size := by rw [List.size_toArray, scells_length]; kernel_rfl
theorem one_state (s : VS) : (scells wcell s).toArray.all (·.oneCell') = true := by
 refine all_oneCell_toArray fun v hv => ?_
 unfold scells at hv
 obtain ⟨j, -, rfl⟩ := List.mem_map.1 hv
 unfold simg wcell
 split <;> rfl
theorem state_put {w : World} {b : Nat} {s : VS} (ht : w.there b 0 (scells wcell s).toArray.size) : P.Img (w.setCells b 0 (scells wcell s).toArray.toList) b 81 (simg wcell s) := by
 have ht' : w.there b 0 (scells wcell s).length := by simpa using ht
 intro j hj
 have h := World.rangeAt_setCells_same w b 0 (scells wcell s) ht' j (simg wcell s j) (scells_at hj)
 rw [Nat.zero_add] at h
 refine ⟨by simpa using h, ?_⟩
 rw [World.frozen?_setCells]
 have := (ht' j (by rw [scells_length]; exact hj)).2
 rwa [Nat.zero_add] at this
theorem ErrIs.nil0 {w : World} {v : Value} {n p : Int} (h : ErrIs w v n p) (hn : n = 0) : v = .nilIface := by
 rcases h with ⟨h, -, -⟩ | ⟨h, -⟩ | ⟨h, -⟩
 ·exact h
 ·exact absurd hn h
 ·exact absurd hn h
theorem ErrIs.noIface {w : World} {v : Value} {n p : Int} (h : ErrIs w v n p) (hn : n ≠ 0) : ∃ t x, v = .iface t x := by
 rcases h with ⟨-, h, -⟩ | ⟨-, h, -⟩ | ⟨-, b, h, -⟩
 ·exact absurd h hn
 ·exact ⟨_, _, h⟩
 ·exact ⟨_, _, h⟩
set_option maxHeartbeats 100000000 in
theorem VAsks_try (S : Nat → Step) (a : Addr) (n cap b f : Nat) (hcap : n ≤ cap) (hn2 : n ≤ 200) (hab : a.block ≠ b) (IH : WalkC S a n cap b f) (HPS : ∀ j, j < n → StepOk n j (S j)) (s : VS) (pc : Nat) (k : Wk) (w : World) (hs : VSOk s) (hpc : pc < n) (hf : n ≤ pc + 1 + f) (hk0 : 0 ≤ k.looks) (hk1 : k.looks ≤ 4000) (hke : ∀ e ∈ k.ends, e.Ok)
  (hc : Cells w a S n) (hI : P.Img w b 5 (wimg (.slice (some a) n cap) k)) (ht : StepOk n pc (S pc)) (hw : (S pc).wrong = 0) (hca : 15 ≤ (S pc).code ∧ (S pc).code ≤ 24) :
  Calls Tryz.prog 106 #[.pointer (some ⟨b, 0, none⟩), .agg (scells wcell s).toArray, .int .i64 pc] w (VPost b (.slice (some a) n cap) w (waysOf (vwalk S f) pc k (s.asks (S pc) pc))) := by
 have HW0 := Lib.hid (Below.refl w.heap.size w)
 have hlt := hI.lt (by omega)
 have c0 : w.cell? ⟨b, 0, none⟩ = some (.slice (some a) n cap) := hI.cell 0 (by omega)
 obtain ⟨e0, e1, e2, e3, e4, e5⟩ := hc pc hpc
 have l0 := block_lt_of_cell e0
 have hin : In64 (S pc).num := ht.2.2
 generalize hT : S pc = t at *
 obtain ⟨c, d, sr, r, o, nn⟩ := t
 obtain ⟨g1, g2, g3, g4⟩ := wrong_ok hw
 simp only at g1 g2 g3 g4 hca e0 e1 e2 e3 e4 e5 hin
 obtain ⟨d, rfl⟩ := Int.eq_ofNat_of_zero_le g2.1
 obtain ⟨sr, rfl⟩ := Int.eq_ofNat_of_zero_le g2.2.2.1
 have dN : d < 11 := by omega
 have sN : sr < 11 := by omega
 have d1 : (d : Int) < 11 := by omega
 have s1 : (sr : Int) < 11 := by omega
 have pc1 : (pc : Int) < n := by omega
 have pc2 : (pc : Int) < 200 := by omega
 have pc0 : (0 : Int) ≤ pc := by omega
 have HI := Lib.hid hI
 have HIH := Lib.hid IH
 have HP := Lib.hid HPS
 have HKE := Lib.hid hke
 have HS := Lib.hid hs
 have HC := Lib.hid hc
 have HTT := Lib.hid ht
 obtain ⟨R, hR⟩ : ∃ R, s.asks ⟨c, d, sr, r, o, nn⟩ pc = R := ⟨_, rfl⟩
 rw [hR]
 have HR := Lib.hid hR
 clear hI IH hs hc ht hw hT hR HPS hke
 go_enter Tryz.func106, Tryz.ntmps106
 go_upto_region 2 with fail
 go_cut [8, 9] (fun p8 p9 wx => ∃ A B : Nat, p8 = .pointer (some ⟨A, 0, none⟩) ∧ p9 = .pointer (some ⟨B, 0, none⟩) ∧ w.heap.size + 1 < A ∧ w.heap.size + 1 < B ∧ P.Img wx A 3 (wcell (s.regs d)) ∧ P.Img wx B 3 (wcell (s.second ⟨c, d, sr, r, o, nn⟩)) ∧ P.Img wx (w.heap.size + 1) 6 (timg ⟨c, d, sr, r, o, nn⟩) ∧ P.Img wx w.heap.size 81 (simg wcell s) ∧ Below w.heap.size w wx)
 case first =>
  as_aux_lemma =>
   generalize hW : World.alloc (World.alloc w _) _ = wd
   have IS : P.Img wd w.heap.size 81 (simg wcell s) := hW ▸ Img.snew.alloc _
   have IT : P.Img wd (w.heap.size + 1) 6 (timg ⟨c, d, sr, r, o, nn⟩) := by
    rw [← hW]
    refine Img.of_cells (by simpa using heap_alloc_new (World.alloc w _) _) (by rfl) fun j hj => ?_
    rcases j with _ | _ | _ | _ | _ | _ | j
    ·rfl
    ·rfl
    ·rfl
    ·rfl
    ·rfl
    ·rfl
    ·omega
   have HB1 := Lib.hid (show Below w.heap.size w wd from hW ▸ (by repeat' (first | with_reducible (first | exact HW0.out | apply bR | apply bD | apply bN | apply bA | apply bS) | (simp; done) | (simp; omega) | omega)))
   clear hW
   obtain ⟨f0, f1, f2, f3, f4, f5⟩ := tcells IT
   obtain ⟨x0, x1, x2⟩ := rcells IS dN
   simp only at f0 f1 f2 f3 f4 f5
   have zs := IS.lt (by omega)
   have zt := IT.lt (by omega)
   have k0 := cell_regrown f0; have k1 := cell_regrown f1; have k2 := cell_regrown f2; have k3 := cell_regrown f3; have k4 := cell_regrown f4; have k5 := cell_regrown f5
   have k6 := cell_regrown x0; have k7 := cell_regrown x1; have k8 := cell_regrown x2
   have C2 := Lib.hid (show ∀ dr os, Calls Tryz.prog 109 #[.pointer (some ⟨w.heap.size, 0, none⟩), .agg #[.int .i64 c, .int .i64 d, .int .i64 sr, .bool r, .int .i64 o, .int .i64 nn]] (Go.Sort.grow (redrawn wd dr) os) fun e w' => e = .returned (.agg #[.int .i64 (s.second ⟨c, d, sr, r, o, nn⟩).kind, .int .i64 (s.second ⟨c, d, sr, r, o, nn⟩).b.lo, .int .i64 (s.second ⟨c, d, sr, r, o, nn⟩).b.hi]) ∧ BelowAt (Go.Sort.grow (redrawn wd dr) os) w' from fun dr os => VSecond_any w.heap.size s _ (IS.later (below_regrown wd dr os) zs) c d sr r o nn sN)
   have HIS := Lib.hid IS
   have HIT := Lib.hid IT
   generalize s.second ⟨c, d, sr, r, o, nn⟩ = y at *
   generalize s.regs d = x at *
   clear IS IT f0 f1 f2 f3 f4 f5 x0 x1 x2
   refine wp_calm_tail2 9 7 8 8 9 156 156 (.cells #[.int .i64 0, .int .i64 0, .int .i64 0] 156 (0, 0)) (.cells #[.int .i64 0, .int .i64 0, .int .i64 0] 156 (0, 0)) (by kernel_rfl) (by kernel_rfl) (by kernel_rfl) (by kernel_rfl) (by kernel_rfl) (by kernel_rfl) (by kernel_rfl) (by kernel_rfl) (by decide) (fun _ => rfl) (fun w => by kernel_rfl) (fun w => by kernel_rfl) ?_
   (repeat (first | refine wpCalm_alloc (by rfl) ?_ | (refine wpCalm_step (by rfl) (fun K hK => ?_); go_simp; first | (refine hK _ ?_; clear hK K) | (apply Exists.intro; refine ⟨fun _ => ?_, hK _ ?_⟩; (exact C2.out _ _); clear hK K))))
   refine wpCalm_nil ?_
   intro A B wq hbq hA hzA hB hzB hAB
   have IA := Img.zero3 hzA
   have IB := Img.zero3 hzB
   have a0 := IA.cell 0 (by omega); have a1 := IA.cell 1 (by omega); have a2 := IA.cell 2 (by omega)
   have b0 := IB.cell 0 (by omega); have b1 := IB.cell 1 (by omega); have b2 := IB.cell 2 (by omega)
   have r0 := IA.free 0 (by omega); have r1 := IA.free 1 (by omega); have r2 := IA.free 2 (by omega)
   have t0 := IB.free 0 (by omega); have t1 := IB.free 1 (by omega); have t2 := IB.free 2 (by omega)
   have HIA := Lib.hid IA
   have HIB := Lib.hid IB
   have HBQ := Lib.hid hbq
   have nAB : ¬ A = B := hAB
   have nBA : ¬ B = A := Ne.symm hAB
   clear IA IB hbq hzA hzB hAB k0 k1 k2 k3 k4 k5 k6 k7 k8
   go_wp2_with fail
   go_meet
   go_light
   refine ⟨A, B, rfl, rfl, by omega, by omega, ?_, ?_, ?_, ?_, ?_⟩
   ·exact (((w3 HIA.out).other nBA _).other nBA _).other nBA _
   ·exact w3 (((HIB.out.other nAB _).other nAB _).other nAB _)
   ·have := HIT.out.later HBQ.out zt
    (repeat' (first | with_reducible exact this | with_reducible refine Img.other ?_ ?_ _ | (simp; omega)))
   ·have := HIS.out.later HBQ.out zs
    (repeat' (first | with_reducible exact this | with_reducible refine Img.other ?_ ?_ _ | (simp; omega)))
   ·have := HB1.out.trans (HBQ.out.mono (by omega))
    (repeat' (first | with_reducible exact this | with_reducible refine Below.setCell ?_ ?_ _ | (simp; omega)))
 case rest =>
  obtain ⟨A, B, rfl, rfl, hA, hB, IA, IB, IT, IS, hb2⟩ := hcut
  obtain ⟨w2, hw2⟩ : ∃ x, x = wc := ⟨_, rfl⟩; subst hw2
  have I2 := HI.out.later hb2 hlt
  have zs := IS.lt (by omega)
  have zt := IT.lt (by omega)
  have zA := IA.lt (by omega)
  have zB := IB.lt (by omega)
  have hC2 := HC.out.later hb2
  obtain ⟨f0, f1, f2, f3, f4, f5⟩ := tcells IT
  obtain ⟨a0, a1, a2⟩ := wcells IA
  obtain ⟨b0, b1, b2⟩ := wcells IB
  simp only at f0 f1 f2 f3 f4 f5
  have hsec : WOk (s.second ⟨c, d, sr, r, o, nn⟩) := HS.out.second hin
  have hreg : WOk (s.regs d) := HS.out.1 d
  have hbl : Below w.heap.size w w2 := hb2
  have HB2 := Lib.hid hb2
  have HI2 := Lib.hid I2
  have HIS := Lib.hid IS
  have HIT := Lib.hid IT
  have HIA := Lib.hid IA
  have HIB := Lib.hid IB
  have HC2 := Lib.hid hC2
  have zb : b < w2.heap.size := I2.lt (by omega)
  have z2 : w.heap.size ≤ w2.heap.size := hb2.size
  clear hb2 I2 IS IT IA IB hC2 hbl HI HC
  have hR := HR.out
  unfold VS.asks at hR
  simp only [Int.toNat_natCast] at hR
  generalize hx : s.regs d = x at *
  generalize hy : s.second ⟨c, d, sr, r, o, nn⟩ = y at *
  have HX := Lib.hid hx
  have HY := Lib.hid hy
  clear hx hy
  by_cases h0 : x.kind = 0 ∨ y.kind = 0
  ·rw [if_pos h0] at hR
   subst hR
   as_aux_lemma =>
    have hd : ((x.kind == 0) = true) ∨ ((x.kind == 0) = false ∧ (y.kind == 0) = true) := by
     by_cases e : x.kind = 0
     ·exact .inl (vbeq_yes e)
     ·exact .inr ⟨vbeq_no e, vbeq_yes (by omega)⟩
    clear h0
    rcases hd with t1 | ⟨t1, t2⟩
    all_goals
     go_wp2_with fail
     refine (At_any _ _ _).mono ?_
     rintro e w3 ⟨rfl, q0, q1, q2, hb3⟩
     have HB3 := Lib.hid hb3
     clear hb3
     go_wp2_with fail
     go_ret
     exact ⟨_, rfl, .inr (.inr ⟨show (8 : Int) ≠ 0 by decide, _, rfl, q0, q1⟩), HI2.out.later HB3.out zb, But.of (HB2.out.trans (HB3.out.mono z2))⟩
  rw [if_neg h0] at hR
  by_cases h1 : x.kind = 1 ∧ y.kind = 1
  ·rw [if_pos h1] at hR
   as_aux_lemma =>
    have hxo := hreg.2
    have hyo := hsec.2
    obtain ⟨xk, ⟨xl, xh⟩⟩ := x
    obtain ⟨yk, ⟨yl, yh⟩⟩ := y
    obtain ⟨e1, e2⟩ := h1
    simp only at e1 e2 hxo hyo
    subst e1
    subst e2
    simp only at a0 a1 a2 b0 b1 b2
    obtain ⟨ol, oh⟩ := HTT.out.2.1 (.inr (show 15 ≤ c ∧ c ≤ 24 from by omega))
    simp only at ol oh
    obtain ⟨o, rfl⟩ := Int.eq_ofNat_of_zero_le ol
    have s1 : IntKind.i64.wrap ((pc : Int) + 1) = (pc : Int) + 1 := IntWalk.i64_in _ (by omega)
    have s2 : IntKind.i64.wrap ((pc : Int) + 1 + (o : Int)) = (pc : Int) + 1 + (o : Int) := IntWalk.i64_in _ (by omega)
    have HN1 : Hid (pc + 1 < n) := by show pc + 1 < n; omega
    have HN2 : Hid (pc + 1 + o < n) := by show pc + 1 + o < n; omega
    have HOX := Lib.hid hxo
    have HOY := Lib.hid hyo
    have HAS : Hid (P.asks c = true) := by show P.asks c = true; simp [P.asks]; omega
    obtain ⟨X, hX⟩ : ∃ X, s.way ⟨c, d, sr, r, o, nn⟩ (opp c) ((pc : Int) + 1) = X := ⟨_, rfl⟩
    obtain ⟨Y, hY⟩ : ∃ Y, s.way ⟨c, d, sr, r, o, nn⟩ c ((pc : Int) + 1 + o) = Y := ⟨_, rfl⟩
    have hR2 : VRes.go X Y = R := by rw [← hX, ← hY]; exact hR
    subst hR2
    obtain ⟨K, hK⟩ : ∃ K : Nat → VR, K = fun j => if j = 0 then ((0, -1), k) else if j = 1 then wayOf (vwalk S f) X k else wayOf (vwalk S f) Y (wayOf (vwalk S f) X k).2 := ⟨_, rfl⟩
    have hK0 : K 0 = ((0, -1), k) := by rw [hK]; rfl
    have hK1 : K 1 = wayOf (vwalk S f) X (K 0).2 := by rw [hK]; rfl
    have hK2 : K 2 = wayOf (vwalk S f) Y (K 1).2 := by rw [hK]; rfl
    have hKR : ∀ j, j < 2 → (K j).1.1 = 0 → (K (j + 1)).1.1 ≠ 0 → waysOf (vwalk S f) pc k (.go X Y) = K (j + 1) := by
     intro j hj h0 h1
     show thenOf (wayOf (vwalk S f) X k) (wayOf (vwalk S f) Y) = K (j + 1)
     have e1 : K 1 = wayOf (vwalk S f) X k := by rw [hK1, hK0]
     rw [← e1]
     unfold thenOf
     rcases j with _ | _ | j
     ·rw [if_pos h1]
     ·rw [if_neg (by simpa using h0), hK2]
     ·omega
    have hKE : (K 1).1.1 = 0 → waysOf (vwalk S f) pc k (.go X Y) = K 2 := by
     intro h0
     show thenOf (wayOf (vwalk S f) X k) (wayOf (vwalk S f) Y) = K 2
     have e1 : K 1 = wayOf (vwalk S f) X k := by rw [hK1, hK0]
     rw [← e1]
     unfold thenOf
     rw [if_neg (by simpa using h0), hK2]
    have HK0 := Lib.hid hK0; have HK1 := Lib.hid hK1; have HK2 := Lib.hid hK2; have HKR := Lib.hid hKR; have HKE2 := Lib.hid hKE
    have HX2 := Lib.hid hX
    have HY2 := Lib.hid hY
    clear hR h0 hX hY hK hK0 hK1 hK2 hKR hKE hxo hyo ol oh hsec hreg hca
    go_wp2_with fail
    go_loopw [58] (fun i wr => ∃ (j : Nat) (k' : Wk), j ≤ 2 ∧ i = .int .i64 j ∧ (j = 2 → (K 1).1.1 = 0) ∧ (K j).1.1 = 0 ∧ (K j).1.2 = -1 ∧ k' = (K j).2 ∧ 0 ≤ k'.looks ∧ k'.looks ≤ 4000 ∧ (∀ e ∈ k'.ends, e.Ok) ∧ P.Img wr b 5 (wimg (.slice (some a) n cap) k') ∧ But b w2 wr) (fun i _ => 2 - (intOf i).toNat)
    case atStart => exact ⟨0, k, by omega, rfl, fun h => by omega, by rw [HK0.out], by rw [HK0.out], by rw [HK0.out], hk0, hk1, HKE.out, HI2.out, But.refl _ _⟩
    case round =>
     obtain ⟨j, k', hj, rfl, hj20, hj0, hjp, hk', hk0', hk1', hke', hI', hB'⟩ := hrel
     have HJ20 := Lib.hid hj20; have HJ0 := Lib.hid hj0; have HJP := Lib.hid hjp; have HKK := Lib.hid hk'; have HKE' := Lib.hid hke'; have HI' := Lib.hid hI'; have HB' := Lib.hid hB'
     have nt : w.heap.size + 1 ≠ b := by omega
     have nA : A ≠ b := fun e => by omega
     have nB : B ≠ b := fun e => by omega
     have nS : w.heap.size ≠ b := by omega
     obtain ⟨f0, f1, f2, f3, f4, f5⟩ := tcells (hB'.img HIT.out (by omega) nt)
     have ia := hB'.img HIA.out (by omega) nA
     have ib := hB'.img HIB.out (by omega) nB
     have is := hB'.img HIS.out (by omega) nS
     obtain ⟨a0', a1', a2'⟩ := wcells ia
     obtain ⟨b0', b1', b2'⟩ := wcells ib
     simp only at f0 f1 f2 f3 f4 f5 a0' a1' a2' b0' b1' b2'
     have HT1 := Lib.hid (hB'.img HIT.out (by omega) nt)
     have HIA1 := Lib.hid ia
     have HIS1 := Lib.hid is
     have HC1 := Lib.hid (HC2.out.but hB' hab)
     have zr : w2.heap.size ≤ wr.heap.size := hB'.size
     have zrt : w.heap.size + 1 < wr.heap.size := by omega
     have zrA : A < wr.heap.size := by omega
     have zrB : B < wr.heap.size := by omega
     have zrb : b < wr.heap.size := by omega
     have zrs : w.heap.size < wr.heap.size := by omega
     clear hj20 hj0 hjp hk' hke' hI' hB' ia ib is
     by_cases hj2 : j < 2
     ·have hj3 : (j : Int) < 2 := by omega
      have hj01 : j = 0 ∨ j = 1 := by omega
      rcases hj01 with rfl | rfl
      ·as_aux_lemma =>
        have i0 : ∀ w, (Instr.index 289 (.agg #[.bool false, .bool true]) (.int .i64 0)).run Tryz.prog w = .ok (.bool false) w := fun _ => by kernel_rfl
        go_upto_region 9 with fail
        go_cut [12, 13] (fun p q wx => ∃ m : Nat, wx = wr.drewN m ∧ p = .int .i64 c ∧ q = .int .i64 ((pc : Int) + 1 + (o : Int)))
        case first =>
         as_aux_lemma =>
          go_quiet (fail)
          go_wp2_with fail
          go_meet
          go_light
          exact ⟨nq, rfl, rfl, rfl⟩
        case rest =>
         obtain ⟨md, hmd, rfl, rfl⟩ := hcut
         obtain ⟨w3, hw3⟩ : ∃ x, x = wc := ⟨_, rfl⟩; subst hw3
         have hb3 : Below wr.heap.size wr w3 := hmd ▸ Below.drewN' (Below.refl _ _) _
         clear hmd
         have HIS3 := Lib.hid (HIS1.out.later hb3 zrs)
         have HIA3 := Lib.hid (HIA1.out.later hb3 zrA)
         have HIT3 := Lib.hid (HT1.out.later hb3 zrt)
         have HC3 := Lib.hid (HC1.out.later hb3)
         have HI3 := Lib.hid (HI'.out.later hb3 zrb)
         have HB3 := Lib.hid (HB'.out.trans (But.of hb3))
         have z3 : wr.heap.size ≤ w3.heap.size := hb3.size
         obtain ⟨f0, f1, f2, f3, f4, f5⟩ := tcells HIT3.out
         have a1' := (hb3.cell (p := ⟨A, 1, none⟩) zrA).trans a1'
         have a2' := (hb3.cell (p := ⟨A, 2, none⟩) zrA).trans a2'
         have b1' := (hb3.cell (p := ⟨B, 1, none⟩) zrB).trans b1'
         have b2' := (hb3.cell (p := ⟨B, 2, none⟩) zrB).trans b2'
         simp only at f0 f1 f2 f3 f4 f5
         have CN := Lib.hid (fun w => Narrow_any (opp c) xl xh yl yh HOX.out.1 HOX.out.2.1 HOY.out.1 HOY.out.2.1 w)
         obtain ⟨Nr, hNr⟩ : ∃ Nr, bnarrow (opp c) ⟨xl, xh⟩ ⟨yl, yh⟩ = Nr := ⟨_, rfl⟩
         rw [hNr] at CN
         have HNr := Lib.hid hNr
         clear hNr hb3 HT1 HIA1 HIS1 HC1 HI' HB'
         obtain ⟨⟨pl, ph⟩, ⟨ql, qh⟩, ok⟩ := Nr
         simp only at CN
         have y1 : w.heap.size + 1 < w3.heap.size := by omega
         have y2 : A < w3.heap.size := by omega
         have y3 : w.heap.size < w3.heap.size := by omega
         have y4 : b < w3.heap.size := by omega
         go_wp2_with (go_at_call 145; with_reducible refine (Opposite_any c HAS.out _).mono ?_; rintro e w' ⟨rfl, rfl⟩)
         refine (CN.out _).mono ?_
         rintro e w4 ⟨rfl, hb4⟩
         have HIS4 := Lib.hid (HIS3.out.later hb4 y3)
         have HC4 := Lib.hid (HC3.out.later hb4)
         have HI4 := Lib.hid (HI3.out.later hb4 y4)
         have HB4 := Lib.hid (HB3.out.trans (But.of hb4))
         have z4 : w3.heap.size ≤ w4.heap.size := hb4.size
         have HIT4 := Lib.hid (HIT3.out.later hb4 y1)
         have HIA4 := Lib.hid (HIA3.out.later hb4 y2)
         obtain ⟨f0, f1, f2, f3, f4, f5⟩ := tcells HIT4.out
         obtain ⟨a0', a1', a2'⟩ := wcells HIA4.out
         simp only at f0 f1 f2 f3 f4 f5 a0' a1' a2'
         have y1 : w.heap.size + 1 < w4.heap.size := by omega
         have y2 : A < w4.heap.size := by omega
         have y3 : w.heap.size < w4.heap.size := by omega
         have y4 : b < w4.heap.size := by omega
         clear hb4 b1' b2' CN HIT3 HIA3 HIS3 HC3 HI3 HB3
         cases ok with
         | false =>
          as_aux_lemma =>
           have hXn : X = none := by
            rw [← HX2.out]
            unfold VS.way
            rw [if_neg]
            simp only [Int.toNat_natCast, HX.out, HY.out, HNr.out]
            decide
           have hKn : K 1 = ((0, -1), k') := by rw [HK1.out, hXn, HKK.out]; rfl
           have HKN := Lib.hid hKn
           clear hXn hKn
           go_wp2_with fail
           go_roundw
           case rel =>
            go_light
            refine ⟨1, k', by omega, by go_num, fun h => by omega, by rw [HKN.out], by rw [HKN.out], by rw [HKN.out], hk0', hk1', HKE'.out, ?_, ?_⟩
            ·exact (HI4.out.alloc _).alloc _
            ·exact (HB4.out.alloc _).alloc _
           case measure => simp [intOf]
         | true =>
          go_upto_region 14 with fail
          generalize hW : World.alloc (World.alloc w4 _) _ = w5
          have hb5 : Below w4.heap.size w4 w5 := hW ▸ ((Below.refl _ _).alloc (Nat.le_refl _) _).alloc (by simp) _
          have p0 : w5.cell? ⟨w4.heap.size, 0, none⟩ = some (.int .i64 pl) := by rw [← hW]; simp [go_sem]
          have p1 : w5.cell? ⟨w4.heap.size, 1, none⟩ = some (.int .i64 ph) := by rw [← hW]; simp [go_sem]
          have q0 : w5.cell? ⟨w4.heap.size + 1, 0, none⟩ = some (.int .i64 ql) := by rw [← hW]; simp [go_sem]
          have q1 : w5.cell? ⟨w4.heap.size + 1, 1, none⟩ = some (.int .i64 qh) := by rw [← hW]; simp [go_sem]
          have yq : w4.heap.size + 1 < w5.heap.size := by rw [← hW]; simp
          have yp : w4.heap.size < w5.heap.size := by omega
          clear hW
          have HIS5 := Lib.hid (HIS4.out.later hb5 y3)
          have HC5 := Lib.hid (HC4.out.later hb5)
          have HI5 := Lib.hid (HI4.out.later hb5 y4)
          have HB5 := Lib.hid (HB4.out.trans (But.of hb5))
          have HIT5 := Lib.hid (HIT4.out.later hb5 y1)
          have HIA5 := Lib.hid (HIA4.out.later hb5 y2)
          have y1 : w.heap.size + 1 < w5.heap.size := by omega
          have y2 : A < w5.heap.size := by omega
          have y3 : w.heap.size < w5.heap.size := by omega
          have y4 : b < w5.heap.size := by omega
          clear hb5 HIS4 HC4 HI4 HB4 HIT4 HIA4 f0 f1 f2 f3 f4 f5 a0' a1' a2'
          go_cut [17] (fun p wx => p = .pointer (some ⟨w5.heap.size, 0, none⟩) ∧ P.Img wx w5.heap.size 81 (simg wcell s) ∧ Below w5.heap.size w5 wx)
          case first =>
           as_aux_lemma =>
            go_wp2_with (first | (with_reducible refine vl_load (by simp [go_sem]; done) 160 (.tmp 4) rfl w.heap.size 0 (by simp [go_sem]; done) (scells wcell s) _ (Img.scells HIS5.out) Tryz.underlying160 rfl (size_state _) ?_) | (with_reducible refine wpList_store_mid rfl 160 (.tmp 17) (.tmp 87) rfl w5.heap.size 0 (scells wcell s).toArray (by simp [go_sem]; done) (by simp [go_sem]; done) (vthere_new (by rw [List.size_toArray, scells_length]; kernel_rfl)) (size_state' _) (one_state _) ?_))
            go_meet
            go_light
            refine ⟨rfl, state_put (vthere_new (by rw [List.size_toArray, scells_length]; kernel_rfl)), rsetCells (Nat.le_refl _) _ _ _ _ ((Below.refl _ _).alloc (Nat.le_refl _) _)⟩
          case rest =>
           obtain ⟨rfl, IU, hb6⟩ := hcut
           obtain ⟨w6, hw6⟩ : ∃ x, x = wc := ⟨_, rfl⟩; subst hw6
           have HIU := Lib.hid IU
           have HC6 := Lib.hid (HC5.out.later hb6)
           have HI6 := Lib.hid (HI5.out.later hb6 y4)
           have HB6 := Lib.hid (HB5.out.trans (But.of hb6))
           obtain ⟨f0, f1, f2, f3, f4, f5⟩ := tcells (HIT5.out.later hb6 y1)
           obtain ⟨a0', a1', a2'⟩ := wcells (HIA5.out.later hb6 y2)
           simp only at f0 f1 f2 f3 f4 f5 a0' a1' a2'
           replace p0 := (hb6.cell (p := ⟨w4.heap.size, 0, none⟩) yp).trans p0
           replace p1 := (hb6.cell (p := ⟨w4.heap.size, 1, none⟩) yp).trans p1
           replace q0 := (hb6.cell (p := ⟨w4.heap.size + 1, 0, none⟩) yq).trans q0
           replace q1 := (hb6.cell (p := ⟨w4.heap.size + 1, 1, none⟩) yq).trans q1
           have zu := IU.lt (by omega)
           have nUb : ¬ w5.heap.size = b := by omega
           have nbU : ¬ b = w5.heap.size := by omega
           have nU4 : ¬ w5.heap.size = w4.heap.size := by omega
           have nU5 : ¬ w5.heap.size = w4.heap.size + 1 := by omega
           have nU6 : ¬ w5.heap.size = w.heap.size + 1 := by omega
           have nU7 : ¬ w5.heap.size = A := by omega
           have nU8 : ¬ w4.heap.size = w5.heap.size := by omega
           have nU9 : ¬ w4.heap.size + 1 = w5.heap.size := by omega
           have nU10 : ¬ w.heap.size + 1 = w5.heap.size := by omega
           have nU11 : ¬ A = w5.heap.size := by omega
           have HAU : Hid (a.block ≠ w5.heap.size) := by show a.block ≠ w5.heap.size; have hbl : (a.add (pc * 6)).block = a.block := (by unfold Addr.add; split <;> rfl); omega
           clear hb6 IU HIS5 HC5 HI5 HB5 HIT5 HIA5
           have hXs : X = some (s.narrowed ⟨c, d, sr, r, o, nn⟩ ⟨pl, ph⟩ ⟨ql, qh⟩, ((pc + 1 : Nat) : Int)) := by
            rw [← HX2.out]
            unfold VS.way
            rw [if_pos]
            ·simp only [Int.toNat_natCast, HX.out, HY.out, HNr.out]; push_cast; rfl
            ·simp only [Int.toNat_natCast, HX.out, HY.out, HNr.out]
           have HXS := Lib.hid hXs
           clear hXs
           have HBo := Lib.hid (show P.B.Ok ⟨pl, ph⟩ ∧ P.B.Ok ⟨ql, qh⟩ from by have := bnarrow_ok (c := opp c) HOX.out HOY.out (by rw [HNr.out]); rw [HNr.out] at this; exact this)
           cases r with
           | false =>
            as_aux_lemma =>
             have d0 := HIU.out.cell (d * 3) (by omega); have d1' := HIU.out.cell (d * 3 + 1) (by omega); have d2 := HIU.out.cell (d * 3 + 2) (by omega); have g0 := HIU.out.free (d * 3) (by omega); have g1' := HIU.out.free (d * 3 + 1) (by omega); have g2' := HIU.out.free (d * 3 + 2) (by omega)
             go_upto_region 20 with fail
             generalize hW : World.setCell (World.setCell w6 _ _) _ _ = w7
             have IU7 : P.Img w7 w5.heap.size 81 (simg wcell (s.narrowed ⟨c, d, sr, false, o, nn⟩ ⟨pl, ph⟩ ⟨ql, qh⟩)) := by
              rw [← hW, show (s.narrowed ⟨c, d, sr, false, o, nn⟩ ⟨pl, ph⟩ ⟨ql, qh⟩) = { s with regs := upd s.regs d ⟨(s.regs d).kind, ⟨pl, ph⟩⟩ } from by unfold VS.narrowed; rw [if_neg (by simp)]; rfl]
              have K := (((HIU.out).set (j := d * 3 + 1) (by omega) (wcell ⟨((s).regs d).kind, ⟨pl, ph⟩⟩ 1)).set (j := d * 3 + 2) (by omega) (wcell ⟨((s).regs d).kind, ⟨pl, ph⟩⟩ 2)).congr (simg_setat (s := s) dN ⟨pl, ph⟩ (fun _ => rfl))
              exact K
             have BU : But w5.heap.size w6 w7 := hW ▸ ((((But.refl w5.heap.size w6).setCell (.inl rfl) _)).setCell (.inl rfl) _)
             have HC7 := Lib.hid (HC6.out.but BU HAU.out)
             have HI7 := Lib.hid (BU.img HI6.out (by omega) nbU)
             have HBB := Lib.hid (but_new HB6.out BU (by omega))
             have HIU7 := Lib.hid IU7
             have HVS : Hid (VSOk (s.narrowed ⟨c, d, sr, false, o, nn⟩ ⟨pl, ph⟩ ⟨ql, qh⟩)) := HS.out.narrowed _ HBo.out.1 HBo.out.2
             clear hW IU7 BU d0 d1' d2 g0 g1' g2' HC6 HI6 HB6 f0 f1 f2 f3 f4 f5 p0 p1 q0 q1 a0' a1' a2' HIU
             generalize hNS : (s.narrowed ⟨c, d, sr, false, o, nn⟩ ⟨pl, ph⟩ ⟨ql, qh⟩) = ns at *
             have HNS := Lib.hid hNS
             clear hNS
             go_wp2_with (first | (with_reducible refine vl_load (by simp [go_sem]; done) 160 (.tmp 17) rfl w5.heap.size 0 (by simp [go_sem]; done) (scells wcell ns) _ (Img.scells HIU7.out) Tryz.underlying160 rfl (size_state _) ?_))
             rw [show ((pc : Int) + 1) = ((pc + 1 : Nat) : Int) by push_cast; rfl]
             have HKP := Lib.hid (vwalk_keeps HP.out f ns ((pc + 1 : Nat) : Int) k' HVS.out (by omega) (by have := HN1.out; exact_mod_cast this) (by push_cast; omega))
             have HK2' : Hid (K 1 = vwalk S f ns ((pc + 1 : Nat) : Int) k') := by show K 1 = _; rw [HK1.out, HXS.out, ← HKK.out]; rfl
             refine (HIH.out ns (pc + 1) k' w7 HVS.out HN1.out (by omega) hk0' hk1' HKE'.out HC7.out HI7.out).mono ?_
             intro e w8 hp
             obtain ⟨v, rfl, hE, hI8, hB8⟩ := hp
             by_cases he : (vwalk S f ns ((pc + 1 : Nat) : Int) k').1.1 = 0
             ·obtain rfl := hE.nil0 he
              have HE0 := Lib.hid he
              have HI8 := Lib.hid hI8
              have HB8 := Lib.hid (HBB.out.trans hB8)
              have HL2 := Lib.hid (vwalk_looks f ns ((pc + 1 : Nat) : Int) k' hk1' HE0.out)
              clear he hE hI8 hB8
              go_wp2_with fail
              go_roundw
              case rel =>
               go_light
               exact ⟨1, (vwalk S f ns ((pc + 1 : Nat) : Int) k').2, by omega, by go_num, fun h => by omega, by rw [HK2'.out]; exact HE0.out, by rw [HK2'.out]; exact HKP.out.place HE0.out, by rw [HK2'.out], Int.le_trans hk0' HKP.out.looks, HL2.out, HKP.out.ok HKE'.out, HI8.out, HB8.out⟩
              case measure => simp [intOf]
             ·obtain ⟨ty, xv, rfl⟩ := hE.noIface he
              have HE0 := Lib.hid he
              have HE := Lib.hid hE
              have HI8 := Lib.hid hI8
              have HB8 := Lib.hid (HBB.out.trans hB8)
              clear he hE hI8 hB8
              go_wp2_with fail
              go_ret
              rw [HKR.out 0 (by omega) HJ0.out (by rw [HK2'.out]; exact HE0.out), HK2'.out]
              exact ⟨_, rfl, HE.out, HI8.out, (But.of HB2.out).trans HB8.out⟩
           | true =>
            by_cases hds : sr = d
            ·as_aux_lemma =>
              have hds2 := hds.symm; clear hds; subst hds2
              have d0 := HIU.out.cell (d * 3) (by omega); have d1' := HIU.out.cell (d * 3 + 1) (by omega); have d2 := HIU.out.cell (d * 3 + 2) (by omega); have g0 := HIU.out.free (d * 3) (by omega); have g1' := HIU.out.free (d * 3 + 1) (by omega); have g2' := HIU.out.free (d * 3 + 2) (by omega)
              clear d0
              obtain ⟨v0, d0⟩ : ∃ v, w6.cell? ⟨w5.heap.size, d * 3, none⟩ = some v := ⟨_, HIU.out.cell (d * 3) (by omega)⟩
              clear d1'
              obtain ⟨v1, d1'⟩ : ∃ v, w6.cell? ⟨w5.heap.size, d * 3 + 1, none⟩ = some v := ⟨_, HIU.out.cell (d * 3 + 1) (by omega)⟩
              clear d2
              obtain ⟨v2, d2⟩ : ∃ v, w6.cell? ⟨w5.heap.size, d * 3 + 2, none⟩ = some v := ⟨_, HIU.out.cell (d * 3 + 2) (by omega)⟩
              go_upto_region 17 with fail
              generalize hW : World.setCell (World.setCell w6 _ _) _ _ = wa
              have IUa : P.Img wa w5.heap.size 81 _ := hW ▸ (((HIU.out).set (j := d * 3 + 1) (by omega) (.int .i64 ql)).set (j := d * 3 + 2) (by omega) (.int .i64 qh))
              have BUwa : But w5.heap.size w6 wa := hW ▸ ((((But.refl w5.heap.size w6).setCell (.inl rfl) _)).setCell (.inl rfl) _)
              clear hW
              replace f1 := BUwa.cell f1 (by omega)
              replace f2 := BUwa.cell f2 (by omega)
              replace f3 := BUwa.cell f3 (by omega)
              replace p0 := BUwa.cell p0 (by omega)
              replace p1 := BUwa.cell p1 (by omega)
              replace q0 := BUwa.cell q0 (by omega)
              replace q1 := BUwa.cell q1 (by omega)
              replace a0' := BUwa.cell a0' (by omega)
              replace a1' := BUwa.cell a1' (by omega)
              replace a2' := BUwa.cell a2' (by omega)
              clear d0
              obtain ⟨vwa0, d0⟩ : ∃ v, wa.cell? ⟨w5.heap.size, d * 3, none⟩ = some v := ⟨_, IUa.cell (d * 3) (by omega)⟩
              replace g0 := IUa.free (d * 3) (by omega)
              clear d1'
              obtain ⟨vwa1, d1'⟩ : ∃ v, wa.cell? ⟨w5.heap.size, d * 3 + 1, none⟩ = some v := ⟨_, IUa.cell (d * 3 + 1) (by omega)⟩
              replace g1' := IUa.free (d * 3 + 1) (by omega)
              clear d2
              obtain ⟨vwa2, d2⟩ : ∃ v, wa.cell? ⟨w5.heap.size, d * 3 + 2, none⟩ = some v := ⟨_, IUa.cell (d * 3 + 2) (by omega)⟩
              replace g2' := IUa.free (d * 3 + 2) (by omega)
              have HIUa := Lib.hid IUa
              clear IUa
              go_upto_region 19 with fail
              generalize hW : World.setCell (World.setCell wa _ _) _ _ = wb
              have IUb : P.Img wb w5.heap.size 81 _ := hW ▸ ((HIUa.out.set (j := d * 3 + 1) (by omega) (.int .i64 pl)).set (j := d * 3 + 2) (by omega) (.int .i64 ph))
              have BUwb : But w5.heap.size wa wb := hW ▸ ((((But.refl w5.heap.size wa).setCell (.inl rfl) _)).setCell (.inl rfl) _)
              clear hW
              replace f1 := BUwb.cell f1 (by omega)
              replace f2 := BUwb.cell f2 (by omega)
              replace f3 := BUwb.cell f3 (by omega)
              replace p0 := BUwb.cell p0 (by omega)
              replace p1 := BUwb.cell p1 (by omega)
              replace q0 := BUwb.cell q0 (by omega)
              replace q1 := BUwb.cell q1 (by omega)
              replace a0' := BUwb.cell a0' (by omega)
              replace a1' := BUwb.cell a1' (by omega)
              replace a2' := BUwb.cell a2' (by omega)
              clear d0
              obtain ⟨vwb0, d0⟩ : ∃ v, wb.cell? ⟨w5.heap.size, d * 3, none⟩ = some v := ⟨_, IUb.cell (d * 3) (by omega)⟩
              replace g0 := IUb.free (d * 3) (by omega)
              clear d1'
              obtain ⟨vwb1, d1'⟩ : ∃ v, wb.cell? ⟨w5.heap.size, d * 3 + 1, none⟩ = some v := ⟨_, IUb.cell (d * 3 + 1) (by omega)⟩
              replace g1' := IUb.free (d * 3 + 1) (by omega)
              clear d2
              obtain ⟨vwb2, d2⟩ : ∃ v, wb.cell? ⟨w5.heap.size, d * 3 + 2, none⟩ = some v := ⟨_, IUb.cell (d * 3 + 2) (by omega)⟩
              replace g2' := IUb.free (d * 3 + 2) (by omega)
              have HIUb := Lib.hid IUb
              clear IUb
              go_upto_region 20 with fail
              generalize hW : World.setCell (World.setCell (World.setCell wb _ _) _ _) _ _ = w7
              have IU7 : P.Img w7 w5.heap.size 81 (simg wcell (s.narrowed ⟨c, d, d, true, o, nn⟩ ⟨pl, ph⟩ ⟨ql, qh⟩)) := by
               have e1 : (s.narrowed ⟨c, d, d, true, o, nn⟩ ⟨pl, ph⟩ ⟨ql, qh⟩) = s := by
                unfold VS.narrowed
                rw [if_pos rfl, if_pos rfl]
               rw [← hW, e1]
               refine (((HIUb.out.set (j := d * 3) (by omega) (.int .i64 1)).set (j := d * 3 + 1) (by omega) (.int .i64 xl)).set (j := d * 3 + 2) (by omega) (.int .i64 xh)).congr fun jj hjj => ?_
               have hx0 := HX.out
               by_cases q2 : jj = d * 3 + 2
               ·rw [q2, upd_same, simg_reg dN (by omega : 2 < 3) rfl, hx0]; rfl
               by_cases q1 : jj = d * 3 + 1
               ·rw [q1, upd_other (by omega), upd_same, simg_reg dN (by omega : 1 < 3) rfl, hx0]; rfl
               by_cases q0 : jj = d * 3
               ·rw [q0, upd_other (by omega), upd_other (by omega), upd_same, simg_reg dN (by omega : 0 < 3) (by omega), hx0]; rfl
               rw [upd_other q2, upd_other q1, upd_other q0, upd_other q2, upd_other q1, upd_other q2, upd_other q1]
              have BU : But w5.heap.size w6 w7 := (BUwa.trans BUwb).trans (hW ▸ ((((((But.refl w5.heap.size wb).setCell (.inl rfl) _)).setCell (.inl rfl) _)).setCell (.inl rfl) _))
              have HC7 := Lib.hid (HC6.out.but BU HAU.out)
              have HI7 := Lib.hid (BU.img HI6.out (by omega) nbU)
              have HBB := Lib.hid (but_new HB6.out BU (by omega))
              have HIU7 := Lib.hid IU7
              have HVS : Hid (VSOk (s.narrowed ⟨c, d, d, true, o, nn⟩ ⟨pl, ph⟩ ⟨ql, qh⟩)) := HS.out.narrowed _ HBo.out.1 HBo.out.2
              clear hW IU7 BU d0 d1' d2 g0 g1' g2' HC6 HI6 HB6 f0 f1 f2 f3 f4 f5 p0 p1 q0 q1 a0' a1' a2' HIU
              generalize hNS : (s.narrowed ⟨c, d, d, true, o, nn⟩ ⟨pl, ph⟩ ⟨ql, qh⟩) = ns at *
              have HNS := Lib.hid hNS
              clear hNS
              go_wp2_with (first | (with_reducible refine vl_load (by simp [go_sem]; done) 160 (.tmp 17) rfl w5.heap.size 0 (by simp [go_sem]; done) (scells wcell ns) _ (Img.scells HIU7.out) Tryz.underlying160 rfl (size_state _) ?_))
              rw [show ((pc : Int) + 1) = ((pc + 1 : Nat) : Int) by push_cast; rfl]
              have HKP := Lib.hid (vwalk_keeps HP.out f ns ((pc + 1 : Nat) : Int) k' HVS.out (by omega) (by have := HN1.out; exact_mod_cast this) (by push_cast; omega))
              have HK2' : Hid (K 1 = vwalk S f ns ((pc + 1 : Nat) : Int) k') := by show K 1 = _; rw [HK1.out, HXS.out, ← HKK.out]; rfl
              refine (HIH.out ns (pc + 1) k' w7 HVS.out HN1.out (by omega) hk0' hk1' HKE'.out HC7.out HI7.out).mono ?_
              intro e w8 hp
              obtain ⟨v, rfl, hE, hI8, hB8⟩ := hp
              by_cases he : (vwalk S f ns ((pc + 1 : Nat) : Int) k').1.1 = 0
              ·obtain rfl := hE.nil0 he
               have HE0 := Lib.hid he
               have HI8 := Lib.hid hI8
               have HB8 := Lib.hid (HBB.out.trans hB8)
               have HL2 := Lib.hid (vwalk_looks f ns ((pc + 1 : Nat) : Int) k' hk1' HE0.out)
               clear he hE hI8 hB8
               go_wp2_with fail
               go_roundw
               case rel =>
                go_light
                exact ⟨1, (vwalk S f ns ((pc + 1 : Nat) : Int) k').2, by omega, by go_num, fun h => by omega, by rw [HK2'.out]; exact HE0.out, by rw [HK2'.out]; exact HKP.out.place HE0.out, by rw [HK2'.out], Int.le_trans hk0' HKP.out.looks, HL2.out, HKP.out.ok HKE'.out, HI8.out, HB8.out⟩
               case measure => simp [intOf]
              ·obtain ⟨ty, xv, rfl⟩ := hE.noIface he
               have HE0 := Lib.hid he
               have HE := Lib.hid hE
               have HI8 := Lib.hid hI8
               have HB8 := Lib.hid (HBB.out.trans hB8)
               clear he hE hI8 hB8
               go_wp2_with fail
               go_ret
               rw [HKR.out 0 (by omega) HJ0.out (by rw [HK2'.out]; exact HE0.out), HK2'.out]
               exact ⟨_, rfl, HE.out, HI8.out, (But.of HB2.out).trans HB8.out⟩
            ·as_aux_lemma =>
              have d0 := HIU.out.cell (d * 3) (by omega); have d1' := HIU.out.cell (d * 3 + 1) (by omega); have d2 := HIU.out.cell (d * 3 + 2) (by omega); have g0 := HIU.out.free (d * 3) (by omega); have g1' := HIU.out.free (d * 3 + 1) (by omega); have g2' := HIU.out.free (d * 3 + 2) (by omega)
              have l1' := HIU.out.cell (sr * 3 + 1) (by omega); have l2 := HIU.out.cell (sr * 3 + 2) (by omega); have m1' := HIU.out.free (sr * 3 + 1) (by omega); have m2' := HIU.out.free (sr * 3 + 2) (by omega)
              have ds := vbeq_no (show (sr : Int) ≠ d by omega)
              have m11 : ¬ sr * 3 + 1 = d * 3 + 1 := by omega
              have m12 : ¬ sr * 3 + 1 = d * 3 + 2 := by omega
              have m21 : ¬ sr * 3 + 2 = d * 3 + 1 := by omega
              have m22 : ¬ sr * 3 + 2 = d * 3 + 2 := by omega
              have n11 : ¬ d * 3 + 1 = sr * 3 + 1 := by omega
              have n12 : ¬ d * 3 + 1 = sr * 3 + 2 := by omega
              have n21 : ¬ d * 3 + 2 = sr * 3 + 1 := by omega
              have n22 : ¬ d * 3 + 2 = sr * 3 + 2 := by omega
              go_upto_region 20 with fail
              generalize hW : World.setCell (World.setCell (World.setCell (World.setCell w6 _ _) _ _) _ _) _ _ = w7
              have IU7 : P.Img w7 w5.heap.size 81 (simg wcell (s.narrowed ⟨c, d, sr, true, o, nn⟩ ⟨pl, ph⟩ ⟨ql, qh⟩)) := by
               have e1 : (s.narrowed ⟨c, d, sr, true, o, nn⟩ ⟨pl, ph⟩ ⟨ql, qh⟩) = { s with regs := upd (upd s.regs sr ⟨(s.regs sr).kind, ⟨ql, qh⟩⟩) d ⟨(s.regs d).kind, ⟨pl, ph⟩⟩ } := by
                unfold VS.narrowed
                rw [if_pos rfl, if_neg (by simp only; omega)]
                rfl
               rw [← hW, e1]
               have K1 := (((HIU.out).set (j := sr * 3 + 1) (by omega) (wcell ⟨((s).regs sr).kind, ⟨ql, qh⟩⟩ 1)).set (j := sr * 3 + 2) (by omega) (wcell ⟨((s).regs sr).kind, ⟨ql, qh⟩⟩ 2)).congr (simg_setat (s := s) sN ⟨ql, qh⟩ (fun _ => rfl))
               have K2 := (((K1).set (j := d * 3 + 1) (by omega) (wcell ⟨((({ s with regs := upd s.regs sr ⟨(s.regs sr).kind, ⟨ql, qh⟩⟩ } : VS)).regs d).kind, ⟨pl, ph⟩⟩ 1)).set (j := d * 3 + 2) (by omega) (wcell ⟨((({ s with regs := upd s.regs sr ⟨(s.regs sr).kind, ⟨ql, qh⟩⟩ } : VS)).regs d).kind, ⟨pl, ph⟩⟩ 2)).congr (simg_setat (s := ({ s with regs := upd s.regs sr ⟨(s.regs sr).kind, ⟨ql, qh⟩⟩ } : VS)) dN ⟨pl, ph⟩ (fun _ => rfl))
               have e2 : upd s.regs sr ⟨(s.regs sr).kind, ⟨ql, qh⟩⟩ d = s.regs d := upd_other (by omega)
               simp only [e2] at K2
               exact K2
              have BU : But w5.heap.size w6 w7 := hW ▸ ((((((((But.refl w5.heap.size w6).setCell (.inl rfl) _)).setCell (.inl rfl) _)).setCell (.inl rfl) _)).setCell (.inl rfl) _)
              have HC7 := Lib.hid (HC6.out.but BU HAU.out)
              have HI7 := Lib.hid (BU.img HI6.out (by omega) nbU)
              have HBB := Lib.hid (but_new HB6.out BU (by omega))
              have HIU7 := Lib.hid IU7
              have HVS : Hid (VSOk (s.narrowed ⟨c, d, sr, true, o, nn⟩ ⟨pl, ph⟩ ⟨ql, qh⟩)) := HS.out.narrowed _ HBo.out.1 HBo.out.2
              clear hW IU7 BU d0 d1' d2 g0 g1' g2' HC6 HI6 HB6 f0 f1 f2 f3 f4 f5 p0 p1 q0 q1 a0' a1' a2' HIU l1' l2 m1' m2'
              generalize hNS : (s.narrowed ⟨c, d, sr, true, o, nn⟩ ⟨pl, ph⟩ ⟨ql, qh⟩) = ns at *
              have HNS := Lib.hid hNS
              clear hNS
              go_wp2_with (first | (with_reducible refine vl_load (by simp [go_sem]; done) 160 (.tmp 17) rfl w5.heap.size 0 (by simp [go_sem]; done) (scells wcell ns) _ (Img.scells HIU7.out) Tryz.underlying160 rfl (size_state _) ?_))
              rw [show ((pc : Int) + 1) = ((pc + 1 : Nat) : Int) by push_cast; rfl]
              have HKP := Lib.hid (vwalk_keeps HP.out f ns ((pc + 1 : Nat) : Int) k' HVS.out (by omega) (by have := HN1.out; exact_mod_cast this) (by push_cast; omega))
              have HK2' : Hid (K 1 = vwalk S f ns ((pc + 1 : Nat) : Int) k') := by show K 1 = _; rw [HK1.out, HXS.out, ← HKK.out]; rfl
              refine (HIH.out ns (pc + 1) k' w7 HVS.out HN1.out (by omega) hk0' hk1' HKE'.out HC7.out HI7.out).mono ?_
              intro e w8 hp
              obtain ⟨v, rfl, hE, hI8, hB8⟩ := hp
              by_cases he : (vwalk S f ns ((pc + 1 : Nat) : Int) k').1.1 = 0
              ·obtain rfl := hE.nil0 he
               have HE0 := Lib.hid he
               have HI8 := Lib.hid hI8
               have HB8 := Lib.hid (HBB.out.trans hB8)
               have HL2 := Lib.hid (vwalk_looks f ns ((pc + 1 : Nat) : Int) k' hk1' HE0.out)
               clear he hE hI8 hB8
               go_wp2_with fail
               go_roundw
               case rel =>
                go_light
                exact ⟨1, (vwalk S f ns ((pc + 1 : Nat) : Int) k').2, by omega, by go_num, fun h => by omega, by rw [HK2'.out]; exact HE0.out, by rw [HK2'.out]; exact HKP.out.place HE0.out, by rw [HK2'.out], Int.le_trans hk0' HKP.out.looks, HL2.out, HKP.out.ok HKE'.out, HI8.out, HB8.out⟩
               case measure => simp [intOf]
              ·obtain ⟨ty, xv, rfl⟩ := hE.noIface he
               have HE0 := Lib.hid he
               have HE := Lib.hid hE
               have HI8 := Lib.hid hI8
               have HB8 := Lib.hid (HBB.out.trans hB8)
               clear he hE hI8 hB8
               go_wp2_with fail
               go_ret
               rw [HKR.out 0 (by omega) HJ0.out (by rw [HK2'.out]; exact HE0.out), HK2'.out]
               exact ⟨_, rfl, HE.out, HI8.out, (But.of HB2.out).trans HB8.out⟩
      ·as_aux_lemma =>
        have i0 : ∀ w, (Instr.index 289 (.agg #[.bool false, .bool true]) (.int .i64 1)).run Tryz.prog w = .ok (.bool true) w := fun _ => by kernel_rfl
        go_upto_region 9 with fail
        go_cut [12, 13] (fun p q wx => ∃ m : Nat, wx = wr.drewN m ∧ p = .int .i64 c ∧ q = .int .i64 ((pc : Int) + 1 + (o : Int)))
        case first =>
         as_aux_lemma =>
          go_quiet (fail)
          go_wp2_with fail
          go_meet
          go_light
          exact ⟨nq, rfl, rfl, rfl⟩
        case rest =>
         obtain ⟨md, hmd, rfl, rfl⟩ := hcut
         obtain ⟨w3, hw3⟩ : ∃ x, x = wc := ⟨_, rfl⟩; subst hw3
         have hb3 : Below wr.heap.size wr w3 := hmd ▸ Below.drewN' (Below.refl _ _) _
         clear hmd
         have HIS3 := Lib.hid (HIS1.out.later hb3 zrs)
         have HIA3 := Lib.hid (HIA1.out.later hb3 zrA)
         have HIT3 := Lib.hid (HT1.out.later hb3 zrt)
         have HC3 := Lib.hid (HC1.out.later hb3)
         have HI3 := Lib.hid (HI'.out.later hb3 zrb)
         have HB3 := Lib.hid (HB'.out.trans (But.of hb3))
         have z3 : wr.heap.size ≤ w3.heap.size := hb3.size
         obtain ⟨f0, f1, f2, f3, f4, f5⟩ := tcells HIT3.out
         have a1' := (hb3.cell (p := ⟨A, 1, none⟩) zrA).trans a1'
         have a2' := (hb3.cell (p := ⟨A, 2, none⟩) zrA).trans a2'
         have b1' := (hb3.cell (p := ⟨B, 1, none⟩) zrB).trans b1'
         have b2' := (hb3.cell (p := ⟨B, 2, none⟩) zrB).trans b2'
         simp only at f0 f1 f2 f3 f4 f5
         have CN := Lib.hid (fun w => Narrow_any (c) xl xh yl yh HOX.out.1 HOX.out.2.1 HOY.out.1 HOY.out.2.1 w)
         obtain ⟨Nr, hNr⟩ : ∃ Nr, bnarrow (c) ⟨xl, xh⟩ ⟨yl, yh⟩ = Nr := ⟨_, rfl⟩
         rw [hNr] at CN
         have HNr := Lib.hid hNr
         clear hNr hb3 HT1 HIA1 HIS1 HC1 HI' HB'
         obtain ⟨⟨pl, ph⟩, ⟨ql, qh⟩, ok⟩ := Nr
         simp only at CN
         have y1 : w.heap.size + 1 < w3.heap.size := by omega
         have y2 : A < w3.heap.size := by omega
         have y3 : w.heap.size < w3.heap.size := by omega
         have y4 : b < w3.heap.size := by omega
         go_wp2_with fail
         refine (CN.out _).mono ?_
         rintro e w4 ⟨rfl, hb4⟩
         have HIS4 := Lib.hid (HIS3.out.later hb4 y3)
         have HC4 := Lib.hid (HC3.out.later hb4)
         have HI4 := Lib.hid (HI3.out.later hb4 y4)
         have HB4 := Lib.hid (HB3.out.trans (But.of hb4))
         have z4 : w3.heap.size ≤ w4.heap.size := hb4.size
         have HIT4 := Lib.hid (HIT3.out.later hb4 y1)
         have HIA4 := Lib.hid (HIA3.out.later hb4 y2)
         obtain ⟨f0, f1, f2, f3, f4, f5⟩ := tcells HIT4.out
         obtain ⟨a0', a1', a2'⟩ := wcells HIA4.out
         simp only at f0 f1 f2 f3 f4 f5 a0' a1' a2'
         have y1 : w.heap.size + 1 < w4.heap.size := by omega
         have y2 : A < w4.heap.size := by omega
         have y3 : w.heap.size < w4.heap.size := by omega
         have y4 : b < w4.heap.size := by omega
         clear hb4 b1' b2' CN HIT3 HIA3 HIS3 HC3 HI3 HB3
         cases ok with
         | false =>
          as_aux_lemma =>
           have hXn : Y = none := by
            rw [← HY2.out]
            unfold VS.way
            rw [if_neg]
            simp only [Int.toNat_natCast, HX.out, HY.out, HNr.out]
            decide
           have hKn : K 2 = ((0, -1), k') := by rw [HK2.out, hXn, HKK.out]; rfl
           have HKN := Lib.hid hKn
           clear hXn hKn
           go_wp2_with fail
           go_roundw
           case rel =>
            go_light
            refine ⟨2, k', by omega, by go_num, fun _ => HJ0.out, by rw [HKN.out], by rw [HKN.out], by rw [HKN.out], hk0', hk1', HKE'.out, ?_, ?_⟩
            ·exact (HI4.out.alloc _).alloc _
            ·exact (HB4.out.alloc _).alloc _
           case measure => simp [intOf]
         | true =>
          go_upto_region 14 with fail
          generalize hW : World.alloc (World.alloc w4 _) _ = w5
          have hb5 : Below w4.heap.size w4 w5 := hW ▸ ((Below.refl _ _).alloc (Nat.le_refl _) _).alloc (by simp) _
          have p0 : w5.cell? ⟨w4.heap.size, 0, none⟩ = some (.int .i64 pl) := by rw [← hW]; simp [go_sem]
          have p1 : w5.cell? ⟨w4.heap.size, 1, none⟩ = some (.int .i64 ph) := by rw [← hW]; simp [go_sem]
          have q0 : w5.cell? ⟨w4.heap.size + 1, 0, none⟩ = some (.int .i64 ql) := by rw [← hW]; simp [go_sem]
          have q1 : w5.cell? ⟨w4.heap.size + 1, 1, none⟩ = some (.int .i64 qh) := by rw [← hW]; simp [go_sem]
          have yq : w4.heap.size + 1 < w5.heap.size := by rw [← hW]; simp
          have yp : w4.heap.size < w5.heap.size := by omega
          clear hW
          have HIS5 := Lib.hid (HIS4.out.later hb5 y3)
          have HC5 := Lib.hid (HC4.out.later hb5)
          have HI5 := Lib.hid (HI4.out.later hb5 y4)
          have HB5 := Lib.hid (HB4.out.trans (But.of hb5))
          have HIT5 := Lib.hid (HIT4.out.later hb5 y1)
          have HIA5 := Lib.hid (HIA4.out.later hb5 y2)
          have y1 : w.heap.size + 1 < w5.heap.size := by omega
          have y2 : A < w5.heap.size := by omega
          have y3 : w.heap.size < w5.heap.size := by omega
          have y4 : b < w5.heap.size := by omega
          clear hb5 HIS4 HC4 HI4 HB4 HIT4 HIA4 f0 f1 f2 f3 f4 f5 a0' a1' a2'
          go_cut [17] (fun p wx => p = .pointer (some ⟨w5.heap.size, 0, none⟩) ∧ P.Img wx w5.heap.size 81 (simg wcell s) ∧ Below w5.heap.size w5 wx)
          case first =>
           as_aux_lemma =>
            go_wp2_with (first | (with_reducible refine vl_load (by simp [go_sem]; done) 160 (.tmp 4) rfl w.heap.size 0 (by simp [go_sem]; done) (scells wcell s) _ (Img.scells HIS5.out) Tryz.underlying160 rfl (size_state _) ?_) | (with_reducible refine wpList_store_mid rfl 160 (.tmp 17) (.tmp 87) rfl w5.heap.size 0 (scells wcell s).toArray (by simp [go_sem]; done) (by simp [go_sem]; done) (vthere_new (by rw [List.size_toArray, scells_length]; kernel_rfl)) (size_state' _) (one_state _) ?_))
            go_meet
            go_light
            refine ⟨rfl, state_put (vthere_new (by rw [List.size_toArray, scells_length]; kernel_rfl)), rsetCells (Nat.le_refl _) _ _ _ _ ((Below.refl _ _).alloc (Nat.le_refl _) _)⟩
          case rest =>
           obtain ⟨rfl, IU, hb6⟩ := hcut
           obtain ⟨w6, hw6⟩ : ∃ x, x = wc := ⟨_, rfl⟩; subst hw6
           have HIU := Lib.hid IU
           have HC6 := Lib.hid (HC5.out.later hb6)
           have HI6 := Lib.hid (HI5.out.later hb6 y4)
           have HB6 := Lib.hid (HB5.out.trans (But.of hb6))
           obtain ⟨f0, f1, f2, f3, f4, f5⟩ := tcells (HIT5.out.later hb6 y1)
           obtain ⟨a0', a1', a2'⟩ := wcells (HIA5.out.later hb6 y2)
           simp only at f0 f1 f2 f3 f4 f5 a0' a1' a2'
           replace p0 := (hb6.cell (p := ⟨w4.heap.size, 0, none⟩) yp).trans p0
           replace p1 := (hb6.cell (p := ⟨w4.heap.size, 1, none⟩) yp).trans p1
           replace q0 := (hb6.cell (p := ⟨w4.heap.size + 1, 0, none⟩) yq).trans q0
           replace q1 := (hb6.cell (p := ⟨w4.heap.size + 1, 1, none⟩) yq).trans q1
           have zu := IU.lt (by omega)
           have nUb : ¬ w5.heap.size = b := by omega
           have nbU : ¬ b = w5.heap.size := by omega
           have nU4 : ¬ w5.heap.size = w4.heap.size := by omega
           have nU5 : ¬ w5.heap.size = w4.heap.size + 1 := by omega
           have nU6 : ¬ w5.heap.size = w.heap.size + 1 := by omega
           have nU7 : ¬ w5.heap.size = A := by omega
           have nU8 : ¬ w4.heap.size = w5.heap.size := by omega
           have nU9 : ¬ w4.heap.size + 1 = w5.heap.size := by omega
           have nU10 : ¬ w.heap.size + 1 = w5.heap.size := by omega
           have nU11 : ¬ A = w5.heap.size := by omega
           have HAU : Hid (a.block ≠ w5.heap.size) := by show a.block ≠ w5.heap.size; have hbl : (a.add (pc * 6)).block = a.block := (by unfold Addr.add; split <;> rfl); omega
           clear hb6 IU HIS5 HC5 HI5 HB5 HIT5 HIA5
           have hXs : Y = some (s.narrowed ⟨c, d, sr, r, o, nn⟩ ⟨pl, ph⟩ ⟨ql, qh⟩, ((pc + 1 + o : Nat) : Int)) := by
            rw [← HY2.out]
            unfold VS.way
            rw [if_pos]
            ·simp only [Int.toNat_natCast, HX.out, HY.out, HNr.out]; push_cast; rfl
            ·simp only [Int.toNat_natCast, HX.out, HY.out, HNr.out]
           have HXS := Lib.hid hXs
           clear hXs
           have HBo := Lib.hid (show P.B.Ok ⟨pl, ph⟩ ∧ P.B.Ok ⟨ql, qh⟩ from by have := bnarrow_ok (c := c) HOX.out HOY.out (by rw [HNr.out]); rw [HNr.out] at this; exact this)
           cases r with
           | false =>
            as_aux_lemma =>
             have d0 := HIU.out.cell (d * 3) (by omega); have d1' := HIU.out.cell (d * 3 + 1) (by omega); have d2 := HIU.out.cell (d * 3 + 2) (by omega); have g0 := HIU.out.free (d * 3) (by omega); have g1' := HIU.out.free (d * 3 + 1) (by omega); have g2' := HIU.out.free (d * 3 + 2) (by omega)
             go_upto_region 20 with fail
             generalize hW : World.setCell (World.setCell w6 _ _) _ _ = w7
             have IU7 : P.Img w7 w5.heap.size 81 (simg wcell (s.narrowed ⟨c, d, sr, false, o, nn⟩ ⟨pl, ph⟩ ⟨ql, qh⟩)) := by
              rw [← hW, show (s.narrowed ⟨c, d, sr, false, o, nn⟩ ⟨pl, ph⟩ ⟨ql, qh⟩) = { s with regs := upd s.regs d ⟨(s.regs d).kind, ⟨pl, ph⟩⟩ } from by unfold VS.narrowed; rw [if_neg (by simp)]; rfl]
              have K := (((HIU.out).set (j := d * 3 + 1) (by omega) (wcell ⟨((s).regs d).kind, ⟨pl, ph⟩⟩ 1)).set (j := d * 3 + 2) (by omega) (wcell ⟨((s).regs d).kind, ⟨pl, ph⟩⟩ 2)).congr (simg_setat (s := s) dN ⟨pl, ph⟩ (fun _ => rfl))
              exact K
             have BU : But w5.heap.size w6 w7 := hW ▸ ((((But.refl w5.heap.size w6).setCell (.inl rfl) _)).setCell (.inl rfl) _)
             have HC7 := Lib.hid (HC6.out.but BU HAU.out)
             have HI7 := Lib.hid (BU.img HI6.out (by omega) nbU)
             have HBB := Lib.hid (but_new HB6.out BU (by omega))
             have HIU7 := Lib.hid IU7
             have HVS : Hid (VSOk (s.narrowed ⟨c, d, sr, false, o, nn⟩ ⟨pl, ph⟩ ⟨ql, qh⟩)) := HS.out.narrowed _ HBo.out.1 HBo.out.2
             clear hW IU7 BU d0 d1' d2 g0 g1' g2' HC6 HI6 HB6 f0 f1 f2 f3 f4 f5 p0 p1 q0 q1 a0' a1' a2' HIU
             generalize hNS : (s.narrowed ⟨c, d, sr, false, o, nn⟩ ⟨pl, ph⟩ ⟨ql, qh⟩) = ns at *
             have HNS := Lib.hid hNS
             clear hNS
             go_wp2_with (first | (with_reducible refine vl_load (by simp [go_sem]; done) 160 (.tmp 17) rfl w5.heap.size 0 (by simp [go_sem]; done) (scells wcell ns) _ (Img.scells HIU7.out) Tryz.underlying160 rfl (size_state _) ?_))
             rw [show ((pc : Int) + 1 + (o : Int)) = ((pc + 1 + o : Nat) : Int) by push_cast; rfl]
             have HKP := Lib.hid (vwalk_keeps HP.out f ns ((pc + 1 + o : Nat) : Int) k' HVS.out (by omega) (by have := HN2.out; exact_mod_cast this) (by push_cast; omega))
             have HK2' : Hid (K 2 = vwalk S f ns ((pc + 1 + o : Nat) : Int) k') := by show K 2 = _; rw [HK2.out, HXS.out, ← HKK.out]; rfl
             refine (HIH.out ns (pc + 1 + o) k' w7 HVS.out HN2.out (by omega) hk0' hk1' HKE'.out HC7.out HI7.out).mono ?_
             intro e w8 hp
             obtain ⟨v, rfl, hE, hI8, hB8⟩ := hp
             by_cases he : (vwalk S f ns ((pc + 1 + o : Nat) : Int) k').1.1 = 0
             ·obtain rfl := hE.nil0 he
              have HE0 := Lib.hid he
              have HI8 := Lib.hid hI8
              have HB8 := Lib.hid (HBB.out.trans hB8)
              have HL2 := Lib.hid (vwalk_looks f ns ((pc + 1 + o : Nat) : Int) k' hk1' HE0.out)
              clear he hE hI8 hB8
              go_wp2_with fail
              go_roundw
              case rel =>
               go_light
               exact ⟨2, (vwalk S f ns ((pc + 1 + o : Nat) : Int) k').2, by omega, by go_num, fun _ => HJ0.out, by rw [HK2'.out]; exact HE0.out, by rw [HK2'.out]; exact HKP.out.place HE0.out, by rw [HK2'.out], Int.le_trans hk0' HKP.out.looks, HL2.out, HKP.out.ok HKE'.out, HI8.out, HB8.out⟩
              case measure => simp [intOf]
             ·obtain ⟨ty, xv, rfl⟩ := hE.noIface he
              have HE0 := Lib.hid he
              have HE := Lib.hid hE
              have HI8 := Lib.hid hI8
              have HB8 := Lib.hid (HBB.out.trans hB8)
              clear he hE hI8 hB8
              go_wp2_with fail
              go_ret
              rw [HKR.out 1 (by omega) HJ0.out (by rw [HK2'.out]; exact HE0.out), HK2'.out]
              exact ⟨_, rfl, HE.out, HI8.out, (But.of HB2.out).trans HB8.out⟩
           | true =>
            by_cases hds : sr = d
            ·as_aux_lemma =>
              have hds2 := hds.symm; clear hds; subst hds2
              have d0 := HIU.out.cell (d * 3) (by omega); have d1' := HIU.out.cell (d * 3 + 1) (by omega); have d2 := HIU.out.cell (d * 3 + 2) (by omega); have g0 := HIU.out.free (d * 3) (by omega); have g1' := HIU.out.free (d * 3 + 1) (by omega); have g2' := HIU.out.free (d * 3 + 2) (by omega)
              clear d0
              obtain ⟨v0, d0⟩ : ∃ v, w6.cell? ⟨w5.heap.size, d * 3, none⟩ = some v := ⟨_, HIU.out.cell (d * 3) (by omega)⟩
              clear d1'
              obtain ⟨v1, d1'⟩ : ∃ v, w6.cell? ⟨w5.heap.size, d * 3 + 1, none⟩ = some v := ⟨_, HIU.out.cell (d * 3 + 1) (by omega)⟩
              clear d2
              obtain ⟨v2, d2⟩ : ∃ v, w6.cell? ⟨w5.heap.size, d * 3 + 2, none⟩ = some v := ⟨_, HIU.out.cell (d * 3 + 2) (by omega)⟩
              go_upto_region 17 with fail
              generalize hW : World.setCell (World.setCell w6 _ _) _ _ = wa
              have IUa : P.Img wa w5.heap.size 81 _ := hW ▸ (((HIU.out).set (j := d * 3 + 1) (by omega) (.int .i64 ql)).set (j := d * 3 + 2) (by omega) (.int .i64 qh))
              have BUwa : But w5.heap.size w6 wa := hW ▸ ((((But.refl w5.heap.size w6).setCell (.inl rfl) _)).setCell (.inl rfl) _)
              clear hW
              replace f1 := BUwa.cell f1 (by omega)
              replace f2 := BUwa.cell f2 (by omega)
              replace f3 := BUwa.cell f3 (by omega)
              replace p0 := BUwa.cell p0 (by omega)
              replace p1 := BUwa.cell p1 (by omega)
              replace q0 := BUwa.cell q0 (by omega)
              replace q1 := BUwa.cell q1 (by omega)
              replace a0' := BUwa.cell a0' (by omega)
              replace a1' := BUwa.cell a1' (by omega)
              replace a2' := BUwa.cell a2' (by omega)
              clear d0
              obtain ⟨vwa0, d0⟩ : ∃ v, wa.cell? ⟨w5.heap.size, d * 3, none⟩ = some v := ⟨_, IUa.cell (d * 3) (by omega)⟩
              replace g0 := IUa.free (d * 3) (by omega)
              clear d1'
              obtain ⟨vwa1, d1'⟩ : ∃ v, wa.cell? ⟨w5.heap.size, d * 3 + 1, none⟩ = some v := ⟨_, IUa.cell (d * 3 + 1) (by omega)⟩
              replace g1' := IUa.free (d * 3 + 1) (by omega)
              clear d2
              obtain ⟨vwa2, d2⟩ : ∃ v, wa.cell? ⟨w5.heap.size, d * 3 + 2, none⟩ = some v := ⟨_, IUa.cell (d * 3 + 2) (by omega)⟩
              replace g2' := IUa.free (d * 3 + 2) (by omega)
              have HIUa := Lib.hid IUa
              clear IUa
              go_upto_region 19 with fail
              generalize hW : World.setCell (World.setCell wa _ _) _ _ = wb
              have IUb : P.Img wb w5.heap.size 81 _ := hW ▸ ((HIUa.out.set (j := d * 3 + 1) (by omega) (.int .i64 pl)).set (j := d * 3 + 2) (by omega) (.int .i64 ph))
              have BUwb : But w5.heap.size wa wb := hW ▸ ((((But.refl w5.heap.size wa).setCell (.inl rfl) _)).setCell (.inl rfl) _)
              clear hW
              replace f1 := BUwb.cell f1 (by omega)
              replace f2 := BUwb.cell f2 (by omega)
              replace f3 := BUwb.cell f3 (by omega)
              replace p0 := BUwb.cell p0 (by omega)
              replace p1 := BUwb.cell p1 (by omega)
              replace q0 := BUwb.cell q0 (by omega)
              replace q1 := BUwb.cell q1 (by omega)
              replace a0' := BUwb.cell a0' (by omega)
              replace a1' := BUwb.cell a1' (by omega)
              replace a2' := BUwb.cell a2' (by omega)
              clear d0
              obtain ⟨vwb0, d0⟩ : ∃ v, wb.cell? ⟨w5.heap.size, d * 3, none⟩ = some v := ⟨_, IUb.cell (d * 3) (by omega)⟩
              replace g0 := IUb.free (d * 3) (by omega)
              clear d1'
              obtain ⟨vwb1, d1'⟩ : ∃ v, wb.cell? ⟨w5.heap.size, d * 3 + 1, none⟩ = some v := ⟨_, IUb.cell (d * 3 + 1) (by omega)⟩
              replace g1' := IUb.free (d * 3 + 1) (by omega)
              clear d2
              obtain ⟨vwb2, d2⟩ : ∃ v, wb.cell? ⟨w5.heap.size, d * 3 + 2, none⟩ = some v := ⟨_, IUb.cell (d * 3 + 2) (by omega)⟩
              replace g2' := IUb.free (d * 3 + 2) (by omega)
              have HIUb := Lib.hid IUb
              clear IUb
              go_upto_region 20 with fail
              generalize hW : World.setCell (World.setCell (World.setCell wb _ _) _ _) _ _ = w7
              have IU7 : P.Img w7 w5.heap.size 81 (simg wcell (s.narrowed ⟨c, d, d, true, o, nn⟩ ⟨pl, ph⟩ ⟨ql, qh⟩)) := by
               have e1 : (s.narrowed ⟨c, d, d, true, o, nn⟩ ⟨pl, ph⟩ ⟨ql, qh⟩) = s := by
                unfold VS.narrowed
                rw [if_pos rfl, if_pos rfl]
               rw [← hW, e1]
               refine (((HIUb.out.set (j := d * 3) (by omega) (.int .i64 1)).set (j := d * 3 + 1) (by omega) (.int .i64 xl)).set (j := d * 3 + 2) (by omega) (.int .i64 xh)).congr fun jj hjj => ?_
               have hx0 := HX.out
               by_cases q2 : jj = d * 3 + 2
               ·rw [q2, upd_same, simg_reg dN (by omega : 2 < 3) rfl, hx0]; rfl
               by_cases q1 : jj = d * 3 + 1
               ·rw [q1, upd_other (by omega), upd_same, simg_reg dN (by omega : 1 < 3) rfl, hx0]; rfl
               by_cases q0 : jj = d * 3
               ·rw [q0, upd_other (by omega), upd_other (by omega), upd_same, simg_reg dN (by omega : 0 < 3) (by omega), hx0]; rfl
               rw [upd_other q2, upd_other q1, upd_other q0, upd_other q2, upd_other q1, upd_other q2, upd_other q1]
              have BU : But w5.heap.size w6 w7 := (BUwa.trans BUwb).trans (hW ▸ ((((((But.refl w5.heap.size wb).setCell (.inl rfl) _)).setCell (.inl rfl) _)).setCell (.inl rfl) _))
              have HC7 := Lib.hid (HC6.out.but BU HAU.out)
              have HI7 := Lib.hid (BU.img HI6.out (by omega) nbU)
              have HBB := Lib.hid (but_new HB6.out BU (by omega))
              have HIU7 := Lib.hid IU7
              have HVS : Hid (VSOk (s.narrowed ⟨c, d, d, true, o, nn⟩ ⟨pl, ph⟩ ⟨ql, qh⟩)) := HS.out.narrowed _ HBo.out.1 HBo.out.2
              clear hW IU7 BU d0 d1' d2 g0 g1' g2' HC6 HI6 HB6 f0 f1 f2 f3 f4 f5 p0 p1 q0 q1 a0' a1' a2' HIU
              generalize hNS : (s.narrowed ⟨c, d, d, true, o, nn⟩ ⟨pl, ph⟩ ⟨ql, qh⟩) = ns at *
              have HNS := Lib.hid hNS
              clear hNS
              go_wp2_with (first | (with_reducible refine vl_load (by simp [go_sem]; done) 160 (.tmp 17) rfl w5.heap.size 0 (by simp [go_sem]; done) (scells wcell ns) _ (Img.scells HIU7.out) Tryz.underlying160 rfl (size_state _) ?_))
              rw [show ((pc : Int) + 1 + (o : Int)) = ((pc + 1 + o : Nat) : Int) by push_cast; rfl]
              have HKP := Lib.hid (vwalk_keeps HP.out f ns ((pc + 1 + o : Nat) : Int) k' HVS.out (by omega) (by have := HN2.out; exact_mod_cast this) (by push_cast; omega))
              have HK2' : Hid (K 2 = vwalk S f ns ((pc + 1 + o : Nat) : Int) k') := by show K 2 = _; rw [HK2.out, HXS.out, ← HKK.out]; rfl
              refine (HIH.out ns (pc + 1 + o) k' w7 HVS.out HN2.out (by omega) hk0' hk1' HKE'.out HC7.out HI7.out).mono ?_
              intro e w8 hp
              obtain ⟨v, rfl, hE, hI8, hB8⟩ := hp
              by_cases he : (vwalk S f ns ((pc + 1 + o : Nat) : Int) k').1.1 = 0
              ·obtain rfl := hE.nil0 he
               have HE0 := Lib.hid he
               have HI8 := Lib.hid hI8
               have HB8 := Lib.hid (HBB.out.trans hB8)
               have HL2 := Lib.hid (vwalk_looks f ns ((pc + 1 + o : Nat) : Int) k' hk1' HE0.out)
               clear he hE hI8 hB8
               go_wp2_with fail
               go_roundw
               case rel =>
                go_light
                exact ⟨2, (vwalk S f ns ((pc + 1 + o : Nat) : Int) k').2, by omega, by go_num, fun _ => HJ0.out, by rw [HK2'.out]; exact HE0.out, by rw [HK2'.out]; exact HKP.out.place HE0.out, by rw [HK2'.out], Int.le_trans hk0' HKP.out.looks, HL2.out, HKP.out.ok HKE'.out, HI8.out, HB8.out⟩
               case measure => simp [intOf]
              ·obtain ⟨ty, xv, rfl⟩ := hE.noIface he
               have HE0 := Lib.hid he
               have HE := Lib.hid hE
               have HI8 := Lib.hid hI8
               have HB8 := Lib.hid (HBB.out.trans hB8)
               clear he hE hI8 hB8
               go_wp2_with fail
               go_ret
               rw [HKR.out 1 (by omega) HJ0.out (by rw [HK2'.out]; exact HE0.out), HK2'.out]
               exact ⟨_, rfl, HE.out, HI8.out, (But.of HB2.out).trans HB8.out⟩
            ·as_aux_lemma =>
              have d0 := HIU.out.cell (d * 3) (by omega); have d1' := HIU.out.cell (d * 3 + 1) (by omega); have d2 := HIU.out.cell (d * 3 + 2) (by omega); have g0 := HIU.out.free (d * 3) (by omega); have g1' := HIU.out.free (d * 3 + 1) (by omega); have g2' := HIU.out.free (d * 3 + 2) (by omega)
              have l1' := HIU.out.cell (sr * 3 + 1) (by omega); have l2 := HIU.out.cell (sr * 3 + 2) (by omega); have m1' := HIU.out.free (sr * 3 + 1) (by omega); have m2' := HIU.out.free (sr * 3 + 2) (by omega)
              have ds := vbeq_no (show (sr : Int) ≠ d by omega)
              have m11 : ¬ sr * 3 + 1 = d * 3 + 1 := by omega
              have m12 : ¬ sr * 3 + 1 = d * 3 + 2 := by omega
              have m21 : ¬ sr * 3 + 2 = d * 3 + 1 := by omega
              have m22 : ¬ sr * 3 + 2 = d * 3 + 2 := by omega
              have n11 : ¬ d * 3 + 1 = sr * 3 + 1 := by omega
              have n12 : ¬ d * 3 + 1 = sr * 3 + 2 := by omega
              have n21 : ¬ d * 3 + 2 = sr * 3 + 1 := by omega
              have n22 : ¬ d * 3 + 2 = sr * 3 + 2 := by omega
              go_upto_region 20 with fail
              generalize hW : World.setCell (World.setCell (World.setCell (World.setCell w6 _ _) _ _) _ _) _ _ = w7
              have IU7 : P.Img w7 w5.heap.size 81 (simg wcell (s.narrowed ⟨c, d, sr, true, o, nn⟩ ⟨pl, ph⟩ ⟨ql, qh⟩)) := by
               have e1 : (s.narrowed ⟨c, d, sr, true, o, nn⟩ ⟨pl, ph⟩ ⟨ql, qh⟩) = { s with regs := upd (upd s.regs sr ⟨(s.regs sr).kind, ⟨ql, qh⟩⟩) d ⟨(s.regs d).kind, ⟨pl, ph⟩⟩ } := by
                unfold VS.narrowed
                rw [if_pos rfl, if_neg (by simp only; omega)]
                rfl
               rw [← hW, e1]
               have K1 := (((HIU.out).set (j := sr * 3 + 1) (by omega) (wcell ⟨((s).regs sr).kind, ⟨ql, qh⟩⟩ 1)).set (j := sr * 3 + 2) (by omega) (wcell ⟨((s).regs sr).kind, ⟨ql, qh⟩⟩ 2)).congr (simg_setat (s := s) sN ⟨ql, qh⟩ (fun _ => rfl))
               have K2 := (((K1).set (j := d * 3 + 1) (by omega) (wcell ⟨((({ s with regs := upd s.regs sr ⟨(s.regs sr).kind, ⟨ql, qh⟩⟩ } : VS)).regs d).kind, ⟨pl, ph⟩⟩ 1)).set (j := d * 3 + 2) (by omega) (wcell ⟨((({ s with regs := upd s.regs sr ⟨(s.regs sr).kind, ⟨ql, qh⟩⟩ } : VS)).regs d).kind, ⟨pl, ph⟩⟩ 2)).congr (simg_setat (s := ({ s with regs := upd s.regs sr ⟨(s.regs sr).kind, ⟨ql, qh⟩⟩ } : VS)) dN ⟨pl, ph⟩ (fun _ => rfl))
               have e2 : upd s.regs sr ⟨(s.regs sr).kind, ⟨ql, qh⟩⟩ d = s.regs d := upd_other (by omega)
               simp only [e2] at K2
               exact K2
              have BU : But w5.heap.size w6 w7 := hW ▸ ((((((((But.refl w5.heap.size w6).setCell (.inl rfl) _)).setCell (.inl rfl) _)).setCell (.inl rfl) _)).setCell (.inl rfl) _)
              have HC7 := Lib.hid (HC6.out.but BU HAU.out)
              have HI7 := Lib.hid (BU.img HI6.out (by omega) nbU)
              have HBB := Lib.hid (but_new HB6.out BU (by omega))
              have HIU7 := Lib.hid IU7
              have HVS : Hid (VSOk (s.narrowed ⟨c, d, sr, true, o, nn⟩ ⟨pl, ph⟩ ⟨ql, qh⟩)) := HS.out.narrowed _ HBo.out.1 HBo.out.2
              clear hW IU7 BU d0 d1' d2 g0 g1' g2' HC6 HI6 HB6 f0 f1 f2 f3 f4 f5 p0 p1 q0 q1 a0' a1' a2' HIU l1' l2 m1' m2'
              generalize hNS : (s.narrowed ⟨c, d, sr, true, o, nn⟩ ⟨pl, ph⟩ ⟨ql, qh⟩) = ns at *
              have HNS := Lib.hid hNS
              clear hNS
              go_wp2_with (first | (with_reducible refine vl_load (by simp [go_sem]; done) 160 (.tmp 17) rfl w5.heap.size 0 (by simp [go_sem]; done) (scells wcell ns) _ (Img.scells HIU7.out) Tryz.underlying160 rfl (size_state _) ?_))
              rw [show ((pc : Int) + 1 + (o : Int)) = ((pc + 1 + o : Nat) : Int) by push_cast; rfl]
              have HKP := Lib.hid (vwalk_keeps HP.out f ns ((pc + 1 + o : Nat) : Int) k' HVS.out (by omega) (by have := HN2.out; exact_mod_cast this) (by push_cast; omega))
              have HK2' : Hid (K 2 = vwalk S f ns ((pc + 1 + o : Nat) : Int) k') := by show K 2 = _; rw [HK2.out, HXS.out, ← HKK.out]; rfl
              refine (HIH.out ns (pc + 1 + o) k' w7 HVS.out HN2.out (by omega) hk0' hk1' HKE'.out HC7.out HI7.out).mono ?_
              intro e w8 hp
              obtain ⟨v, rfl, hE, hI8, hB8⟩ := hp
              by_cases he : (vwalk S f ns ((pc + 1 + o : Nat) : Int) k').1.1 = 0
              ·obtain rfl := hE.nil0 he
               have HE0 := Lib.hid he
               have HI8 := Lib.hid hI8
               have HB8 := Lib.hid (HBB.out.trans hB8)
               have HL2 := Lib.hid (vwalk_looks f ns ((pc + 1 + o : Nat) : Int) k' hk1' HE0.out)
               clear he hE hI8 hB8
               go_wp2_with fail
               go_roundw
               case rel =>
                go_light
                exact ⟨2, (vwalk S f ns ((pc + 1 + o : Nat) : Int) k').2, by omega, by go_num, fun _ => HJ0.out, by rw [HK2'.out]; exact HE0.out, by rw [HK2'.out]; exact HKP.out.place HE0.out, by rw [HK2'.out], Int.le_trans hk0' HKP.out.looks, HL2.out, HKP.out.ok HKE'.out, HI8.out, HB8.out⟩
               case measure => simp [intOf]
              ·obtain ⟨ty, xv, rfl⟩ := hE.noIface he
               have HE0 := Lib.hid he
               have HE := Lib.hid hE
               have HI8 := Lib.hid hI8
               have HB8 := Lib.hid (HBB.out.trans hB8)
               clear he hE hI8 hB8
               go_wp2_with fail
               go_ret
               rw [HKR.out 1 (by omega) HJ0.out (by rw [HK2'.out]; exact HE0.out), HK2'.out]
               exact ⟨_, rfl, HE.out, HI8.out, (But.of HB2.out).trans HB8.out⟩
     ·obtain rfl : j = 2 := by omega
      have hj3 : ¬ (2 : Int) < 2 := by omega
      have h21 : (K 1).1.1 = 0 := HJ20.out rfl
      have HE : Hid (waysOf (vwalk S f) pc k (.go X Y) = ((0, -1), k')) := by
       show waysOf (vwalk S f) pc k (.go X Y) = ((0, -1), k')
       rw [HKE2.out h21, HKK.out]
       have e1 := HJ0.out; have e2 := HJP.out
       generalize K 2 = q at *
       obtain ⟨⟨a1, a2⟩, a3⟩ := q
       simp only at e1 e2
       rw [e1, e2]
      clear h21
      go_wp2_with fail
      go_ret
      rw [HE.out]
      exact ⟨_, rfl, .inl ⟨rfl, rfl, rfl⟩, HI'.out, (But.of HB2.out).trans HB'.out⟩
  rw [if_neg h1] at hR
  by_cases h2 : r = true ∨ nn ≠ 0 ∨ (c ≠ 15 ∧ c ≠ 16)
  ·rw [if_pos h2] at hR
   subst hR
   as_aux_lemma =>
    have t0 := vbeq_no (show x.kind ≠ 0 by omega)
    have t1 := vbeq_no (show y.kind ≠ 0 by omega)
    have hd : ((x.kind == 1) = false) ∨ ((x.kind == 1) = true ∧ (y.kind == 1) = false) := by
     by_cases e : x.kind = 1
     ·exact .inr ⟨vbeq_yes e, vbeq_no (by omega)⟩
     ·exact .inl (vbeq_no e)
    have he : r = true ∨ (r = false ∧ (nn != 0) = true) ∨ (r = false ∧ (nn != 0) = false ∧ (c != 15) = true ∧ (c != 16) = true) := by
     cases r with
     | true => exact .inl rfl
     | false =>
      by_cases e : nn = 0
      ·exact .inr (.inr ⟨rfl, vbne_no e, vbne_yes (by simp [e] at h2; omega), vbne_yes (by simp [e] at h2; omega)⟩)
      ·exact .inr (.inl ⟨rfl, vbne_yes e⟩)
    clear h0 h1 h2
    rcases hd with t2 | ⟨t2, t3⟩
    all_goals rcases he with rfl | ⟨rfl, t4⟩ | ⟨rfl, t4, t5, t6⟩
    all_goals
     go_wp2_with fail
     refine (At_any _ _ _).mono ?_
     rintro e w3 ⟨rfl, q0, q1, q2, hb3⟩
     have HB3 := Lib.hid hb3
     clear hb3
     go_wp2_with fail
     go_ret
     exact ⟨_, rfl, .inr (.inr ⟨show (1 : Int) ≠ 0 by decide, _, rfl, q0, q1⟩), HI2.out.later HB3.out zb, But.of (HB2.out.trans (HB3.out.mono z2))⟩
  ·rw [if_neg h2] at hR
   as_aux_lemma =>
    have hr : r = false := by cases r <;> simp_all
    subst hr
    have hn0 : nn = 0 := by omega
    subst hn0
    have hy1 : y = Wh.num (bone 0) := HY.out.symm
    subst hy1
    have x1 : x.kind ≠ 1 := fun e => h1 ⟨e, rfl⟩
    have t0 := vbeq_no (show x.kind ≠ 0 by omega)
    have t1 := vbeq_no x1
    have hc2 : c = 15 ∨ c = 16 := by omega
    obtain ⟨ol, oh⟩ := HTT.out.2.1 (.inr (show 15 ≤ c ∧ c ≤ 24 from by omega))
    simp only at ol oh
    obtain ⟨o, rfl⟩ := Int.eq_ofNat_of_zero_le ol
    have s1 : IntKind.i64.wrap ((pc : Int) + 1) = (pc : Int) + 1 := IntWalk.i64_in _ (by omega)
    have s2 : IntKind.i64.wrap ((pc : Int) + 1 + (o : Int)) = (pc : Int) + 1 + (o : Int) := IntWalk.i64_in _ (by omega)
    have HN1 : Hid (pc + 1 < n) := by show pc + 1 < n; omega
    have HN2 : Hid (pc + 1 + o < n) := by show pc + 1 + o < n; omega
    clear h0 h1 h2 x1 ol oh
    rcases hc2 with rfl | rfl
    ·have HR2 : Hid ((if x.kind = 5 then VRes.go (some (s.setReg d (.num (bone 0)), ((pc + 1 + o : Nat) : Int))) (some (s.setReg d ⟨4, bone 0⟩, ((pc + 1 : Nat) : Int))) else VRes.go (some (s, ((pc + 1 : Nat) : Int))) none) = R) := hR
     clear hR
     as_aux_lemma =>
      replace b0 : w2.cell? ⟨B, 0, none⟩ = some (.int .i64 1) := b0
      go_upto_region 27 with fail
      go_cut [19, 20] (fun p q wx => p = .int .i64 ↑(pc + 1) ∧ q = .int .i64 ↑(pc + 1 + o) ∧ ∃ m : Nat, wx = w2.drewN m)
      case first =>
       as_aux_lemma =>
        go_quiet (fail)
        go_wp2_with fail
        go_meet
        go_light
        exact ⟨by first | rfl | (push_cast; rfl), by first | rfl | (push_cast; rfl), nq, rfl⟩
      case rest =>
       obtain ⟨rfl, rfl, md, hmd⟩ := hcut
       obtain ⟨w3, hw3⟩ : ∃ x, x = wc := ⟨_, rfl⟩; subst hw3
       have hb3 : Below w2.heap.size w2 w3 := hmd ▸ Below.drewN' (Below.refl _ _) _
       have HB3 := Lib.hid hb3
       clear hmd
       have HIS3 := Lib.hid (HIS.out.later hb3 zs)
       have HC3 := Lib.hid (HC2.out.later hb3)
       have HI3 := Lib.hid (HI2.out.later hb3 zb)
       have IT3 := HIT.out.later hb3 zt
       have IA3 := HIA.out.later hb3 zA
       obtain ⟨f0, f1, f2, f3, f4, f5⟩ := tcells IT3
       obtain ⟨a0, a1, a2⟩ := wcells IA3
       simp only at f0 f1 f2 f3 f4 f5
       have z3 : w2.heap.size ≤ w3.heap.size := hb3.size
       have y1 : w.heap.size + 1 < w3.heap.size := by omega
       have y2 : A < w3.heap.size := by omega
       have y3 : w.heap.size < w3.heap.size := by omega
       have y4 : b < w3.heap.size := by omega
       have HIT3 := Lib.hid IT3
       have HIA3 := Lib.hid IA3
       clear hb3 IT3 IA3 HIS HC2 HI2 HIT HIA
       go_upto_region 30 with fail
       go_cut [21] (fun p wx => p = .pointer (some ⟨w3.heap.size, 0, none⟩) ∧ P.Img wx w3.heap.size 81 (simg wcell s) ∧ Below w3.heap.size w3 wx)
       case first =>
        as_aux_lemma =>
         go_wp2_with (first | (with_reducible refine vl_load (by simp [go_sem]; done) 160 (.tmp 4) rfl w.heap.size 0 (by simp [go_sem]; done) (scells wcell s) _ (Img.scells HIS3.out) Tryz.underlying160 rfl (size_state _) ?_) | (with_reducible refine wpList_store_mid rfl 160 (.tmp 21) (.tmp 155) rfl w3.heap.size 0 (scells wcell s).toArray (by simp [go_sem]; done) (by simp [go_sem]; done) (vthere_new (by rw [List.size_toArray, scells_length]; kernel_rfl)) (size_state' _) (one_state _) ?_))
         go_meet
         go_light
         refine ⟨rfl, state_put (vthere_new (by rw [List.size_toArray, scells_length]; kernel_rfl)), rsetCells (Nat.le_refl _) _ _ _ _ ((Below.refl _ _).alloc (Nat.le_refl _) _)⟩
       case rest =>
        obtain ⟨rfl, IU, hb4⟩ := hcut
        obtain ⟨w4, hw4⟩ : ∃ x, x = wc := ⟨_, rfl⟩; subst hw4
        have HIT4 := Lib.hid (HIT3.out.later hb4 y1)
        have HC4 := Lib.hid (HC3.out.later hb4)
        have HI4 := Lib.hid (HI3.out.later hb4 y4)
        obtain ⟨f0, f1, f2, f3, f4, f5⟩ := tcells HIT4.out
        obtain ⟨a0, a1, a2⟩ := wcells (HIA3.out.later hb4 y2)
        simp only at f0 f1 f2 f3 f4 f5
        have HIU := Lib.hid IU
        have zu := IU.lt (by omega)
        have z4 : w3.heap.size ≤ w4.heap.size := hb4.size
        have HBW := Lib.hid (HB2.out.trans ((HB3.out.mono z2).trans (hb4.mono (by omega))))
        have yt : w.heap.size + 1 < w4.heap.size := by omega
        have yb : b < w4.heap.size := by omega
        have yA : A < w4.heap.size := by omega
        have nUb : ¬ w3.heap.size = b := by omega
        have nbU : ¬ b = w3.heap.size := by omega
        have HAU : Hid (a.block ≠ w3.heap.size) := by show a.block ≠ w3.heap.size; have hbl : (a.add (pc * 6)).block = a.block := (by unfold Addr.add; split <;> rfl); omega
        clear hb4 IU HIS3 HIA3 HIT3 HC3 HI3 HB3 HB2
        by_cases k5 : x.kind = 5
        ·have hR2 := HR2.out
         rw [if_pos k5] at hR2
         subst hR2
         have t5 := vbeq_yes k5
         clear k5
         as_aux_lemma =>
          go_wp2_with fail
          have CO := Lib.hid (show ∀ wd dr os, Calls Tryz.prog 60 #[.int .i64 0] (Go.Sort.grow (redrawn wd dr) os) fun e w' => e = .returned (.agg #[.int .i64 0, .int .i64 0]) ∧ ∃ p : Regrown, w' = Go.Sort.grow (redrawn wd p.d) p.os from fun wd dr os => Calls.regrown_of (One_any 0 _))
          have CN := Lib.hid (show ∀ wd dr os, Calls Tryz.prog 112 #[.agg #[.int .i64 0, .int .i64 0]] (Go.Sort.grow (redrawn wd dr) os) fun e w' => e = .returned (.agg #[.int .i64 1, .int .i64 0, .int .i64 0]) ∧ ∃ p : Regrown, w' = Go.Sort.grow (redrawn wd p.d) p.os from fun wd dr os => Calls.regrown_of (VNumber_any 0 0 _))
          have q1 := cell_regrown f1
          refine wp_below_tail 6 (by kernel_rfl) (by kernel_rfl) ?_
          repeat (quiet_step (first | exact CO.out _ _ _ | exact CN.out _ _ _))
          refine wpQuiet_nil ?_
          intro wq hwq
          have hbq : Below w4.heap.size w4 wq := by
           obtain ⟨p, hp⟩ := hwq
           rw [hp]; exact below_regrown _ _ _
          clear hwq q1
          have IQ := HIU.out.later hbq zu
          have d0 := IQ.cell (d * 3) (by omega); have d1' := IQ.cell (d * 3 + 1) (by omega); have d2 := IQ.cell (d * 3 + 2) (by omega)
          have g0 := IQ.free (d * 3) (by omega); have g1' := IQ.free (d * 3 + 1) (by omega); have g2' := IQ.free (d * 3 + 2) (by omega)
          have HIQ := Lib.hid IQ
          have HBQ := Lib.hid hbq
          have zqU : w3.heap.size < wq.heap.size := IQ.lt (by omega)
          clear IQ hbq CO CN
          go_upto_region 33 with fail
          generalize hW : World.setCell (World.setCell (World.setCell wq _ _) _ _) _ _ = w5
          have IU5 : P.Img w5 w3.heap.size 81 (simg wcell (s.setReg d (.num (bone 0)))) := by
           rw [← hW]
           have K := (((HIQ.out.set (j := d * 3) (by omega) (wcell (.num (bone 0)) 0)).set (j := d * 3 + 1) (by omega) (wcell (.num (bone 0)) 1)).set (j := d * 3 + 2) (by omega) (wcell (.num (bone 0)) 2)).congr (simg_setreg dN (.num (bone 0)))
           exact K
          have B5 : Below w3.heap.size w4 w5 := hW ▸ (((HBQ.out.mono z4).setCell (by simp) _).setCell (by simp) _).setCell (by simp) _
          have HIU5 := Lib.hid IU5
          have hC5 : Cells w5 a S n := (HC4.out.later HBQ.out).but (hW ▸ (((But.refl w3.heap.size wq).setCell (.inl rfl) _).setCell (.inl rfl) _).setCell (.inl rfl) _) HAU.out
          have hI5 : P.Img w5 b 5 (wimg (.slice (some a) n cap) k) := HI4.out.later B5 (by omega)
          have g1 : w5.cell? ⟨w.heap.size + 1, 1, none⟩ = some (.int .i64 d) := (B5.cell (p := ⟨w.heap.size + 1, 1, none⟩) y1).trans f1
          have HC5 := Lib.hid hC5
          have HI5 := Lib.hid hI5
          have HBW5 := Lib.hid (HBW.out.trans (B5.mono (by omega)))
          have zu5 := IU5.lt (by omega)
          have y15 : w.heap.size + 1 < w5.heap.size := by omega
          clear hW IU5 B5 hC5 hI5 d0 d1' d2 g0 g1' g2' f0 f1 f2 f3 f4 f5 a0 a1 a2 HIQ HBQ HIU HI4 HC4 HBW
          go_wp2_with (first | (with_reducible refine vl_load (by simp [go_sem]; done) 160 (.tmp 21) rfl w3.heap.size 0 (by simp [go_sem]; done) (scells wcell (s.setReg d (.num (bone 0)))) _ (Img.scells HIU5.out) Tryz.underlying160 rfl (size_state _) ?_))
          rw [show ((pc : Int) + 1 + (o : Int)) = ((pc + 1 + o : Nat) : Int) by push_cast; rfl]
          refine (HIH.out (s.setReg d (.num (bone 0))) (pc + 1 + o) k w5 (HS.out.setReg _ (WOk.num (bone_ok in64_0))) HN2.out (by omega) hk0 hk1 HKE.out HC5.out HI5.out).mono ?_
          intro e w6 hp
          obtain ⟨v, rfl, hE, hI6, hB6⟩ := hp
          by_cases he : (vwalk S f (s.setReg d (.num (bone 0))) ((pc + 1 + o : Nat) : Int) k).1.1 = 0
          ·obtain rfl := hE.nil0 he
           have HE0 := Lib.hid he
           have g1' := hB6.cell g1 (show w.heap.size + 1 ≠ b by omega)
           have HI6 := Lib.hid hI6
           have HB6 := Lib.hid hB6
           have IU6 := hB6.img HIU5.out (by omega) nUb
           have HIU6 := Lib.hid IU6
           have HC6 := Lib.hid (HC5.out.but hB6 hab)
           have zu6 := IU6.lt (by omega)
           have z6 : w5.heap.size ≤ w6.heap.size := hB6.size
           have y16 : w.heap.size + 1 < w6.heap.size := by omega
           have yb6 : b < w6.heap.size := by omega
           clear he hE hI6 hB6 IU6 g1 HIU5 HC5 HI5
           go_wp2_with fail
           have CO := Lib.hid (show ∀ wd dr os, Calls Tryz.prog 60 #[.int .i64 0] (Go.Sort.grow (redrawn wd dr) os) fun e w' => e = .returned (.agg #[.int .i64 0, .int .i64 0]) ∧ ∃ p : Regrown, w' = Go.Sort.grow (redrawn wd p.d) p.os from fun wd dr os => Calls.regrown_of (One_any 0 _))
           have q1 := cell_regrown g1'
           refine wp_below_tail 6 (by kernel_rfl) (by kernel_rfl) ?_
           repeat (quiet_step (exact CO.out _ _ _))
           refine wpQuiet_nil ?_
           intro wz hwz
           have hbz : Below w6.heap.size w6 wz := by
            obtain ⟨p, hp⟩ := hwz
            rw [hp]; exact below_regrown _ _ _
           clear hwz q1
           have IZ := HIU6.out.later hbz zu6
           have d0 := IZ.cell (d * 3) (by omega); have d1' := IZ.cell (d * 3 + 1) (by omega); have d2 := IZ.cell (d * 3 + 2) (by omega)
           have g0 := IZ.free (d * 3) (by omega); have h1' := IZ.free (d * 3 + 1) (by omega); have h2' := IZ.free (d * 3 + 2) (by omega)
           have HIZ := Lib.hid IZ
           have HBZ := Lib.hid hbz
           clear IZ hbz CO
           go_upto_region 37 with fail
           generalize hW : World.setCell (World.setCell (World.setCell wz _ _) _ _) _ _ = w7
           have IU7 : P.Img w7 w3.heap.size 81 (simg wcell (s.setReg d ⟨4, bone 0⟩)) := by
            rw [← hW]
            have K := (((HIZ.out.set (j := d * 3) (by omega) (wcell ⟨4, bone 0⟩ 0)).set (j := d * 3 + 1) (by omega) (wcell ⟨4, bone 0⟩ 1)).set (j := d * 3 + 2) (by omega) (wcell ⟨4, bone 0⟩ 2)).congr (simg_setreg dN ⟨4, bone 0⟩)
            rw [show (s.setReg d ⟨4, bone 0⟩) = { (s.setReg d (.num (bone 0))) with regs := upd (s.setReg d (.num (bone 0))).regs d ⟨4, bone 0⟩ } from by unfold VS.setReg; simp only [Int.toNat_natCast, vupd_upd]]
            exact K
           have BU : But w3.heap.size wz w7 := hW ▸ (((But.refl w3.heap.size wz).setCell (.inl rfl) _).setCell (.inl rfl) _).setCell (.inl rfl) _
           have hC7 : Cells w7 a S n := (HC6.out.later HBZ.out).but BU HAU.out
           have hI7 : P.Img w7 b 5 (wimg (.slice (some a) n cap) (vwalk S f (s.setReg d (.num (bone 0))) ((pc + 1 + o : Nat) : Int) k).2) := BU.img (HI6.out.later HBZ.out yb6) (by omega) nbU
           have HIU7 := Lib.hid IU7
           have HC7 := Lib.hid hC7
           have HI7 := Lib.hid hI7
           have HBB := Lib.hid (but_new (((But.of HBW5.out).trans HB6.out).trans (But.of HBZ.out)) BU (by omega))
           clear hW IU7 BU hC7 hI7 d0 d1' d2 g0 h1' h2' HIZ HBZ HIU6 HC6 g1'
           go_wp2_with (first | (with_reducible refine vl_load (by simp [go_sem]; done) 160 (.tmp 21) rfl w3.heap.size 0 (by simp [go_sem]; done) (scells wcell (s.setReg d ⟨4, bone 0⟩)) _ (Img.scells HIU7.out) Tryz.underlying160 rfl (size_state _) ?_))
           rw [show ((pc : Int) + 1) = ((pc + 1 : Nat) : Int) by push_cast; rfl]
           have HKP := Lib.hid (vwalk_keeps HP.out f (s.setReg d (.num (bone 0))) ((pc + 1 + o : Nat) : Int) k (HS.out.setReg _ (WOk.num (bone_ok in64_0))) (by omega) (by have := HN2.out; exact_mod_cast this) (by push_cast; omega))
           have HL2 := Lib.hid (vwalk_looks f (s.setReg d (.num (bone 0))) ((pc + 1 + o : Nat) : Int) k hk1 HE0.out)
           refine (HIH.out (s.setReg d ⟨4, bone 0⟩) (pc + 1) (vwalk S f (s.setReg d (.num (bone 0))) ((pc + 1 + o : Nat) : Int) k).2 w7 (HS.out.setReg _ ⟨by simp, bone_ok in64_0⟩) HN1.out (by omega) (Int.le_trans hk0 HKP.out.looks) HL2.out (HKP.out.ok HKE.out) HC7.out HI7.out).mono ?_
           intro e w8 hp
           obtain ⟨v, rfl, hE, hI8, hB8⟩ := hp
           have HE := Lib.hid hE
           have HI8 := Lib.hid hI8
           have HB8 := Lib.hid hB8
           clear hE hI8 hB8
           go_wp2_with fail
           go_ret
           rw [ways_second HE0.out]
           exact ⟨_, rfl, HE.out, HI8.out, HBB.out.trans HB8.out⟩
          ·obtain ⟨ty, xv, rfl⟩ := hE.noIface he
           have HE0 := Lib.hid he
           have HE := Lib.hid hE
           have HI6 := Lib.hid hI6
           have HB6 := Lib.hid hB6
           clear he hE hI6 hB6
           go_wp2_with fail
           go_ret
           rw [ways_first HE0.out]
           exact ⟨_, rfl, HE.out, HI6.out, (But.of HBW5.out).trans HB6.out⟩
        ·have hR2 := HR2.out
         rw [if_neg k5] at hR2
         subst hR2
         have t5 := vbeq_no k5
         clear k5
         as_aux_lemma =>
          go_wp2_with (first | (with_reducible refine vl_load (by simp [go_sem]; done) 160 (.tmp 21) rfl w3.heap.size 0 (by simp [go_sem]; done) (scells wcell s) _ (Img.scells HIU.out) Tryz.underlying160 rfl (size_state _) ?_))
          rw [show ((pc : Int) + 1) = ((pc + 1 : Nat) : Int) by push_cast; rfl]
          refine (HIH.out s (pc + 1) k w4 HS.out HN1.out (by omega) hk0 hk1 HKE.out HC4.out HI4.out).mono ?_
          intro e w6 hp
          obtain ⟨v, rfl, hE, hI6, hB6⟩ := hp
          have HE := Lib.hid hE
          have HI6 := Lib.hid hI6
          have HB6 := Lib.hid hB6
          clear hE hI6 hB6
          go_wp2_with fail
          go_ret
          rw [ways_one (fun h0 => (vwalk_keeps HP.out f s _ k HS.out (by omega) (by have := HN1.out; exact_mod_cast this) (by push_cast; omega)).place h0)]
          exact ⟨_, rfl, HE.out, HI6.out, (But.of HBW.out).trans HB6.out⟩
    ·have HR2 : Hid ((if x.kind = 5 then VRes.go (some (s.setReg d (.num (bone 0)), ((pc + 1 : Nat) : Int))) (some (s.setReg d ⟨4, bone 0⟩, ((pc + 1 + o : Nat) : Int))) else VRes.go (some (s, ((pc + 1 + o : Nat) : Int))) none) = R) := hR
     clear hR
     as_aux_lemma =>
      replace b0 : w2.cell? ⟨B, 0, none⟩ = some (.int .i64 1) := b0
      go_upto_region 27 with fail
      go_cut [19, 20] (fun p q wx => p = .int .i64 ↑(pc + 1) ∧ q = .int .i64 ↑(pc + 1 + o) ∧ ∃ m : Nat, wx = w2.drewN m)
      case first =>
       as_aux_lemma =>
        go_quiet (fail)
        go_wp2_with fail
        go_meet
        go_light
        exact ⟨by first | rfl | (push_cast; rfl), by first | rfl | (push_cast; rfl), nq, rfl⟩
      case rest =>
       obtain ⟨rfl, rfl, md, hmd⟩ := hcut
       obtain ⟨w3, hw3⟩ : ∃ x, x = wc := ⟨_, rfl⟩; subst hw3
       have hb3 : Below w2.heap.size w2 w3 := hmd ▸ Below.drewN' (Below.refl _ _) _
       have HB3 := Lib.hid hb3
       clear hmd
       have HIS3 := Lib.hid (HIS.out.later hb3 zs)
       have HC3 := Lib.hid (HC2.out.later hb3)
       have HI3 := Lib.hid (HI2.out.later hb3 zb)
       have IT3 := HIT.out.later hb3 zt
       have IA3 := HIA.out.later hb3 zA
       obtain ⟨f0, f1, f2, f3, f4, f5⟩ := tcells IT3
       obtain ⟨a0, a1, a2⟩ := wcells IA3
       simp only at f0 f1 f2 f3 f4 f5
       have z3 : w2.heap.size ≤ w3.heap.size := hb3.size
       have y1 : w.heap.size + 1 < w3.heap.size := by omega
       have y2 : A < w3.heap.size := by omega
       have y3 : w.heap.size < w3.heap.size := by omega
       have y4 : b < w3.heap.size := by omega
       have HIT3 := Lib.hid IT3
       have HIA3 := Lib.hid IA3
       clear hb3 IT3 IA3 HIS HC2 HI2 HIT HIA
       go_upto_region 30 with fail
       go_cut [21] (fun p wx => p = .pointer (some ⟨w3.heap.size, 0, none⟩) ∧ P.Img wx w3.heap.size 81 (simg wcell s) ∧ Below w3.heap.size w3 wx)
       case first =>
        as_aux_lemma =>
         go_wp2_with (first | (with_reducible refine vl_load (by simp [go_sem]; done) 160 (.tmp 4) rfl w.heap.size 0 (by simp [go_sem]; done) (scells wcell s) _ (Img.scells HIS3.out) Tryz.underlying160 rfl (size_state _) ?_) | (with_reducible refine wpList_store_mid rfl 160 (.tmp 21) (.tmp 155) rfl w3.heap.size 0 (scells wcell s).toArray (by simp [go_sem]; done) (by simp [go_sem]; done) (vthere_new (by rw [List.size_toArray, scells_length]; kernel_rfl)) (size_state' _) (one_state _) ?_))
         go_meet
         go_light
         refine ⟨rfl, state_put (vthere_new (by rw [List.size_toArray, scells_length]; kernel_rfl)), rsetCells (Nat.le_refl _) _ _ _ _ ((Below.refl _ _).alloc (Nat.le_refl _) _)⟩
       case rest =>
        obtain ⟨rfl, IU, hb4⟩ := hcut
        obtain ⟨w4, hw4⟩ : ∃ x, x = wc := ⟨_, rfl⟩; subst hw4
        have HIT4 := Lib.hid (HIT3.out.later hb4 y1)
        have HC4 := Lib.hid (HC3.out.later hb4)
        have HI4 := Lib.hid (HI3.out.later hb4 y4)
        obtain ⟨f0, f1, f2, f3, f4, f5⟩ := tcells HIT4.out
        obtain ⟨a0, a1, a2⟩ := wcells (HIA3.out.later hb4 y2)
        simp only at f0 f1 f2 f3 f4 f5
        have HIU := Lib.hid IU
        have zu := IU.lt (by omega)
        have z4 : w3.heap.size ≤ w4.heap.size := hb4.size
        have HBW := Lib.hid (HB2.out.trans ((HB3.out.mono z2).trans (hb4.mono (by omega))))
        have yt : w.heap.size + 1 < w4.heap.size := by omega
        have yb : b < w4.heap.size := by omega
        have yA : A < w4.heap.size := by omega
        have nUb : ¬ w3.heap.size = b := by omega
        have nbU : ¬ b = w3.heap.size := by omega
        have HAU : Hid (a.block ≠ w3.heap.size) := by show a.block ≠ w3.heap.size; have hbl : (a.add (pc * 6)).block = a.block := (by unfold Addr.add; split <;> rfl); omega
        clear hb4 IU HIS3 HIA3 HIT3 HC3 HI3 HB3 HB2
        by_cases k5 : x.kind = 5
        ·have hR2 := HR2.out
         rw [if_pos k5] at hR2
         subst hR2
         have t5 := vbeq_yes k5
         clear k5
         as_aux_lemma =>
          go_wp2_with fail
          have CO := Lib.hid (show ∀ wd dr os, Calls Tryz.prog 60 #[.int .i64 0] (Go.Sort.grow (redrawn wd dr) os) fun e w' => e = .returned (.agg #[.int .i64 0, .int .i64 0]) ∧ ∃ p : Regrown, w' = Go.Sort.grow (redrawn wd p.d) p.os from fun wd dr os => Calls.regrown_of (One_any 0 _))
          have CN := Lib.hid (show ∀ wd dr os, Calls Tryz.prog 112 #[.agg #[.int .i64 0, .int .i64 0]] (Go.Sort.grow (redrawn wd dr) os) fun e w' => e = .returned (.agg #[.int .i64 1, .int .i64 0, .int .i64 0]) ∧ ∃ p : Regrown, w' = Go.Sort.grow (redrawn wd p.d) p.os from fun wd dr os => Calls.regrown_of (VNumber_any 0 0 _))
          have q1 := cell_regrown f1
          refine wp_below_tail 6 (by kernel_rfl) (by kernel_rfl) ?_
          repeat (quiet_step (first | exact CO.out _ _ _ | exact CN.out _ _ _))
          refine wpQuiet_nil ?_
          intro wq hwq
          have hbq : Below w4.heap.size w4 wq := by
           obtain ⟨p, hp⟩ := hwq
           rw [hp]; exact below_regrown _ _ _
          clear hwq q1
          have IQ := HIU.out.later hbq zu
          have d0 := IQ.cell (d * 3) (by omega); have d1' := IQ.cell (d * 3 + 1) (by omega); have d2 := IQ.cell (d * 3 + 2) (by omega)
          have g0 := IQ.free (d * 3) (by omega); have g1' := IQ.free (d * 3 + 1) (by omega); have g2' := IQ.free (d * 3 + 2) (by omega)
          have HIQ := Lib.hid IQ
          have HBQ := Lib.hid hbq
          have zqU : w3.heap.size < wq.heap.size := IQ.lt (by omega)
          clear IQ hbq CO CN
          go_upto_region 33 with fail
          generalize hW : World.setCell (World.setCell (World.setCell wq _ _) _ _) _ _ = w5
          have IU5 : P.Img w5 w3.heap.size 81 (simg wcell (s.setReg d (.num (bone 0)))) := by
           rw [← hW]
           have K := (((HIQ.out.set (j := d * 3) (by omega) (wcell (.num (bone 0)) 0)).set (j := d * 3 + 1) (by omega) (wcell (.num (bone 0)) 1)).set (j := d * 3 + 2) (by omega) (wcell (.num (bone 0)) 2)).congr (simg_setreg dN (.num (bone 0)))
           exact K
          have B5 : Below w3.heap.size w4 w5 := hW ▸ (((HBQ.out.mono z4).setCell (by simp) _).setCell (by simp) _).setCell (by simp) _
          have HIU5 := Lib.hid IU5
          have hC5 : Cells w5 a S n := (HC4.out.later HBQ.out).but (hW ▸ (((But.refl w3.heap.size wq).setCell (.inl rfl) _).setCell (.inl rfl) _).setCell (.inl rfl) _) HAU.out
          have hI5 : P.Img w5 b 5 (wimg (.slice (some a) n cap) k) := HI4.out.later B5 (by omega)
          have g1 : w5.cell? ⟨w.heap.size + 1, 1, none⟩ = some (.int .i64 d) := (B5.cell (p := ⟨w.heap.size + 1, 1, none⟩) y1).trans f1
          have HC5 := Lib.hid hC5
          have HI5 := Lib.hid hI5
          have HBW5 := Lib.hid (HBW.out.trans (B5.mono (by omega)))
          have zu5 := IU5.lt (by omega)
          have y15 : w.heap.size + 1 < w5.heap.size := by omega
          clear hW IU5 B5 hC5 hI5 d0 d1' d2 g0 g1' g2' f0 f1 f2 f3 f4 f5 a0 a1 a2 HIQ HBQ HIU HI4 HC4 HBW
          go_wp2_with (first | (with_reducible refine vl_load (by simp [go_sem]; done) 160 (.tmp 21) rfl w3.heap.size 0 (by simp [go_sem]; done) (scells wcell (s.setReg d (.num (bone 0)))) _ (Img.scells HIU5.out) Tryz.underlying160 rfl (size_state _) ?_))
          rw [show ((pc : Int) + 1) = ((pc + 1 : Nat) : Int) by push_cast; rfl]
          refine (HIH.out (s.setReg d (.num (bone 0))) (pc + 1) k w5 (HS.out.setReg _ (WOk.num (bone_ok in64_0))) HN1.out (by omega) hk0 hk1 HKE.out HC5.out HI5.out).mono ?_
          intro e w6 hp
          obtain ⟨v, rfl, hE, hI6, hB6⟩ := hp
          by_cases he : (vwalk S f (s.setReg d (.num (bone 0))) ((pc + 1 : Nat) : Int) k).1.1 = 0
          ·obtain rfl := hE.nil0 he
           have HE0 := Lib.hid he
           have g1' := hB6.cell g1 (show w.heap.size + 1 ≠ b by omega)
           have HI6 := Lib.hid hI6
           have HB6 := Lib.hid hB6
           have IU6 := hB6.img HIU5.out (by omega) nUb
           have HIU6 := Lib.hid IU6
           have HC6 := Lib.hid (HC5.out.but hB6 hab)
           have zu6 := IU6.lt (by omega)
           have z6 : w5.heap.size ≤ w6.heap.size := hB6.size
           have y16 : w.heap.size + 1 < w6.heap.size := by omega
           have yb6 : b < w6.heap.size := by omega
           clear he hE hI6 hB6 IU6 g1 HIU5 HC5 HI5
           go_wp2_with fail
           have CO := Lib.hid (show ∀ wd dr os, Calls Tryz.prog 60 #[.int .i64 0] (Go.Sort.grow (redrawn wd dr) os) fun e w' => e = .returned (.agg #[.int .i64 0, .int .i64 0]) ∧ ∃ p : Regrown, w' = Go.Sort.grow (redrawn wd p.d) p.os from fun wd dr os => Calls.regrown_of (One_any 0 _))
           have q1 := cell_regrown g1'
           refine wp_below_tail 6 (by kernel_rfl) (by kernel_rfl) ?_
           repeat (quiet_step (exact CO.out _ _ _))
           refine wpQuiet_nil ?_
           intro wz hwz
           have hbz : Below w6.heap.size w6 wz := by
            obtain ⟨p, hp⟩ := hwz
            rw [hp]; exact below_regrown _ _ _
           clear hwz q1
           have IZ := HIU6.out.later hbz zu6
           have d0 := IZ.cell (d * 3) (by omega); have d1' := IZ.cell (d * 3 + 1) (by omega); have d2 := IZ.cell (d * 3 + 2) (by omega)
           have g0 := IZ.free (d * 3) (by omega); have h1' := IZ.free (d * 3 + 1) (by omega); have h2' := IZ.free (d * 3 + 2) (by omega)
           have HIZ := Lib.hid IZ
           have HBZ := Lib.hid hbz
           clear IZ hbz CO
           go_upto_region 37 with fail
           generalize hW : World.setCell (World.setCell (World.setCell wz _ _) _ _) _ _ = w7
           have IU7 : P.Img w7 w3.heap.size 81 (simg wcell (s.setReg d ⟨4, bone 0⟩)) := by
            rw [← hW]
            have K := (((HIZ.out.set (j := d * 3) (by omega) (wcell ⟨4, bone 0⟩ 0)).set (j := d * 3 + 1) (by omega) (wcell ⟨4, bone 0⟩ 1)).set (j := d * 3 + 2) (by omega) (wcell ⟨4, bone 0⟩ 2)).congr (simg_setreg dN ⟨4, bone 0⟩)
            rw [show (s.setReg d ⟨4, bone 0⟩) = { (s.setReg d (.num (bone 0))) with regs := upd (s.setReg d (.num (bone 0))).regs d ⟨4, bone 0⟩ } from by unfold VS.setReg; simp only [Int.toNat_natCast, vupd_upd]]
            exact K
           have BU : But w3.heap.size wz w7 := hW ▸ (((But.refl w3.heap.size wz).setCell (.inl rfl) _).setCell (.inl rfl) _).setCell (.inl rfl) _
           have hC7 : Cells w7 a S n := (HC6.out.later HBZ.out).but BU HAU.out
           have hI7 : P.Img w7 b 5 (wimg (.slice (some a) n cap) (vwalk S f (s.setReg d (.num (bone 0))) ((pc + 1 : Nat) : Int) k).2) := BU.img (HI6.out.later HBZ.out yb6) (by omega) nbU
           have HIU7 := Lib.hid IU7
           have HC7 := Lib.hid hC7
           have HI7 := Lib.hid hI7
           have HBB := Lib.hid (but_new (((But.of HBW5.out).trans HB6.out).trans (But.of HBZ.out)) BU (by omega))
           clear hW IU7 BU hC7 hI7 d0 d1' d2 g0 h1' h2' HIZ HBZ HIU6 HC6 g1'
           go_wp2_with (first | (with_reducible refine vl_load (by simp [go_sem]; done) 160 (.tmp 21) rfl w3.heap.size 0 (by simp [go_sem]; done) (scells wcell (s.setReg d ⟨4, bone 0⟩)) _ (Img.scells HIU7.out) Tryz.underlying160 rfl (size_state _) ?_))
           rw [show ((pc : Int) + 1 + (o : Int)) = ((pc + 1 + o : Nat) : Int) by push_cast; rfl]
           have HKP := Lib.hid (vwalk_keeps HP.out f (s.setReg d (.num (bone 0))) ((pc + 1 : Nat) : Int) k (HS.out.setReg _ (WOk.num (bone_ok in64_0))) (by omega) (by have := HN1.out; exact_mod_cast this) (by push_cast; omega))
           have HL2 := Lib.hid (vwalk_looks f (s.setReg d (.num (bone 0))) ((pc + 1 : Nat) : Int) k hk1 HE0.out)
           refine (HIH.out (s.setReg d ⟨4, bone 0⟩) (pc + 1 + o) (vwalk S f (s.setReg d (.num (bone 0))) ((pc + 1 : Nat) : Int) k).2 w7 (HS.out.setReg _ ⟨by simp, bone_ok in64_0⟩) HN2.out (by omega) (Int.le_trans hk0 HKP.out.looks) HL2.out (HKP.out.ok HKE.out) HC7.out HI7.out).mono ?_
           intro e w8 hp
           obtain ⟨v, rfl, hE, hI8, hB8⟩ := hp
           have HE := Lib.hid hE
           have HI8 := Lib.hid hI8
           have HB8 := Lib.hid hB8
           clear hE hI8 hB8
           go_wp2_with fail
           go_ret
           rw [ways_second HE0.out]
           exact ⟨_, rfl, HE.out, HI8.out, HBB.out.trans HB8.out⟩
          ·obtain ⟨ty, xv, rfl⟩ := hE.noIface he
           have HE0 := Lib.hid he
           have HE := Lib.hid hE
           have HI6 := Lib.hid hI6
           have HB6 := Lib.hid hB6
           clear he hE hI6 hB6
           go_wp2_with fail
           go_ret
           rw [ways_first HE0.out]
           exact ⟨_, rfl, HE.out, HI6.out, (But.of HBW5.out).trans HB6.out⟩
        ·have hR2 := HR2.out
         rw [if_neg k5] at hR2
         subst hR2
         have t5 := vbeq_no k5
         clear k5
         as_aux_lemma =>
          go_wp2_with (first | (with_reducible refine vl_load (by simp [go_sem]; done) 160 (.tmp 21) rfl w3.heap.size 0 (by simp [go_sem]; done) (scells wcell s) _ (Img.scells HIU.out) Tryz.underlying160 rfl (size_state _) ?_))
          rw [show ((pc : Int) + 1 + (o : Int)) = ((pc + 1 + o : Nat) : Int) by push_cast; rfl]
          refine (HIH.out s (pc + 1 + o) k w4 HS.out HN2.out (by omega) hk0 hk1 HKE.out HC4.out HI4.out).mono ?_
          intro e w6 hp
          obtain ⟨v, rfl, hE, hI6, hB6⟩ := hp
          have HE := Lib.hid hE
          have HI6 := Lib.hid hI6
          have HB6 := Lib.hid hB6
          clear hE hI6 hB6
          go_wp2_with fail
          go_ret
          rw [ways_one (fun h0 => (vwalk_keeps HP.out f s _ k HS.out (by omega) (by have := HN2.out; exact_mod_cast this) (by push_cast; omega)).place h0)]
          exact ⟨_, rfl, HE.out, HI6.out, (But.of HBW.out).trans HB6.out⟩
end Go.Proofs.YtpdlmbbgioenoaaGreatDoor.W
