/- What verify.Verify computes, as plain functions: no program in sight; and that what is known stays in order. No conditions beyond the ones each theorem states. -/
import Derived.Test.YtfpoicdfkjbknaaDoorPureBound
import Derived.Test.YtfpoicdfkjbknaaDoorPureRun
namespace Go.Proofs.YtfpoicdfkjbknaaDoor.P
open Go.RowKit (wrap64)
set_option linter.unusedSimpArgs false
set_option linter.unusedVariables false

/-- what is known of a register: kind 0 nothing, 1 a number, 2 a place in what is told, 3 in the frame, 4 in a cell, 5 a cell's beginning or 0; and between which numbers -/
structure Wh where
  kind : Int
  b : B
def Wh.nil : Wh := ⟨0, bnil⟩
def Wh.num (b : B) : Wh := ⟨1, b⟩
/-- what is known ahead of a step -/
structure VS where
  regs : Nat → Wh
  slots : Nat → Wh
/-- where a place is, so far on, and an error's number -/
def vfar (w : Wh) (off : Int) : B × Int :=
  if w.kind = 0 then (bnil, 8) else if w.kind = 1 ∨ w.kind = 5 then (bnil, 1)
  else if (bdoes 2 w.b (bone off)).lo < low w.kind ∨ high w.kind < (bdoes 2 w.b (bone off)).hi then (bnil, 2) else (bdoes 2 w.b (bone off), 0)
/-- any of n slots from slot k on: all must be numbers -/
def vany (sl : Nat → Wh) : Nat → Nat → B → Wh × Int
  | 0, _, acc => (Wh.num acc, 0)
  | n + 1, k, acc => if (sl k).kind = 0 then (Wh.nil, 8) else if (sl k).kind ≠ 1 then (Wh.nil, 1) else vany sl n (k + 1) (bjoin acc (sl k).b)
def VS.load (s : VS) (w : Wh) (off : Int) : Wh × Int :=
  if (vfar w off).2 ≠ 0 then (.nil, (vfar w off).2)
  else if w.kind ≠ 3 then (.num ball, 0)
  else if (vfar w off).1.lo = (vfar w off).1.hi then (if (s.slots ((vfar w off).1.lo + 16).toNat).kind = 0 then (.nil, 8) else (s.slots ((vfar w off).1.lo + 16).toNat, 0))
  else vany s.slots ((vfar w off).1.hi - (vfar w off).1.lo + 1).toNat ((vfar w off).1.lo + 16).toNat (s.slots ((vfar w off).1.lo + 16).toNat).b
def VS.store (s : VS) (w : Wh) (off : Int) (x : Wh) : VS × Int :=
  if (vfar w off).2 ≠ 0 then (s, (vfar w off).2)
  else if w.kind = 2 then (s, 6) else if x.kind = 0 then (s, 8)
  else if w.kind = 4 ∧ x.kind ≠ 1 then (s, 1) else if w.kind = 4 then (s, 0)
  else if (vfar w off).1.lo ≠ (vfar w off).1.hi then (s, 2)
  else ({ s with slots := upd s.slots ((vfar w off).1.lo + 16).toNat x }, 0)
def VS.second (s : VS) (t : Step) : Wh := if t.reg then s.regs t.src.toNat else .num (bone t.num)
def VS.operand (s : VS) (t : Step) : Wh := if t.code = 13 then .num (bone 0) else s.second t
/-- a place, and a number -/
def wshift (c : Int) (a b : Wh) : Wh × Int :=
  if b.kind ≠ 1 ∨ a.kind = 5 ∨ (c ≠ 2 ∧ c ≠ 3) then (.nil, 1)
  else if bdoes c a.b b.b = ball then (.nil, 2) else (⟨a.kind, bdoes c a.b b.b⟩, 0)
/-- what a code makes of two -/
def wcounts (c : Int) (a b : Wh) : Wh × Int :=
  if b.kind = 0 ∨ (a.kind = 0 ∧ c ≠ 1) then (.nil, 8)
  else if c = 1 then (b, 0)
  else if a.kind = 1 ∧ b.kind = 1 then (.num (bdoes c a.b b.b), 0)
  else if c = 2 ∧ a.kind = 1 then wshift c b a else wshift c a b
/-- what a call leaves -/
def VS.call (s : VS) (n : Int) : VS × Int :=
  if n ≠ 2 ∧ (s.regs 1).kind = 0 then (s, 8) else if n ≠ 2 ∧ (s.regs 1).kind ≠ 1 then (s, 1)
  else ({ s with regs := fun j => if j = 0 then (if n = 1 then ⟨5, bone 0⟩ else if n = 3 then .num (bone 0) else .num ball) else if 1 ≤ j ∧ j ≤ 5 then .nil else s.regs j }, 0)
/-- what a step comes to: an end, an error, or one way or two -/
inductive VRes where
  | done (b : B)
  | err (e : Int)
  | go (x y : Option (VS × Int))
/-- what is known behind a step that asks two numbers -/
def VS.narrowed (s : VS) (t : Step) (x y : B) : VS :=
  if t.reg then (if t.src = t.dst then s else { s with regs := upd (upd s.regs t.src.toNat ⟨(s.regs t.src.toNat).kind, y⟩) t.dst.toNat ⟨(s.regs t.dst.toNat).kind, x⟩ })
  else { s with regs := upd s.regs t.dst.toNat ⟨(s.regs t.dst.toNat).kind, x⟩ }
def VS.way (s : VS) (t : Step) (c : Int) (next : Int) : Option (VS × Int) :=
  if (bnarrow c (s.regs t.dst.toNat).b (s.second t).b).2.2 then some (s.narrowed t (bnarrow c (s.regs t.dst.toNat).b (s.second t).b).1 (bnarrow c (s.regs t.dst.toNat).b (s.second t).b).2.1, next) else none
def VS.setReg (s : VS) (r : Int) (w : Wh) : VS := { s with regs := upd s.regs r.toNat w }
/-- a step that asks: its ways -/
def VS.asks (s : VS) (t : Step) (pc : Int) : VRes :=
  if (s.regs t.dst.toNat).kind = 0 ∨ (s.second t).kind = 0 then .err 8
  else if (s.regs t.dst.toNat).kind = 1 ∧ (s.second t).kind = 1 then .go (s.way t (opp t.code) (pc + 1)) (s.way t t.code (pc + 1 + t.off))
  else if t.reg = true ∨ t.num ≠ 0 ∨ (t.code ≠ 15 ∧ t.code ≠ 16) then .err 1
  else
    let there := if t.code = 16 then pc + 1 + t.off else pc + 1
    let none' := if t.code = 16 then pc + 1 else pc + 1 + t.off
    if (s.regs t.dst.toNat).kind = 5 then .go (some (s.setReg t.dst (.num (bone 0)), none')) (some (s.setReg t.dst ⟨4, bone 0⟩, there)) else .go (some (s, there)) none
def VS.step (s : VS) (t : Step) (pc : Int) : VRes :=
  if t.code = 28 then (if (s.regs 0).kind = 1 then .done (s.regs 0).b else if (s.regs 0).kind = 0 then .err 8 else .err 1)
  else if t.code = 14 then .go (some (s, pc + 1 + t.off)) none
  else if 15 ≤ t.code ∧ t.code ≤ 24 then s.asks t pc
  else if t.code = 25 then (if (s.load (s.regs t.src.toNat) t.off).2 ≠ 0 then .err (s.load (s.regs t.src.toNat) t.off).2 else .go (some (s.setReg t.dst (s.load (s.regs t.src.toNat) t.off).1, pc + 1)) none)
  else if t.code = 26 then (if (s.store (s.regs t.dst.toNat) t.off (s.second t)).2 ≠ 0 then .err (s.store (s.regs t.dst.toNat) t.off (s.second t)).2 else .go (some ((s.store (s.regs t.dst.toNat) t.off (s.second t)).1, pc + 1)) none)
  else if t.code = 27 then (if (s.call t.num).2 ≠ 0 then .err (s.call t.num).2 else .go (some ((s.call t.num).1, pc + 1)) none)
  else (if (wcounts t.code (s.regs t.dst.toNat) (s.operand t)).2 ≠ 0 then .err (wcounts t.code (s.regs t.dst.toNat) (s.operand t)).2 else .go (some (s.setReg t.dst (wcounts t.code (s.regs t.dst.toNat) (s.operand t)).1, pc + 1)) none)
/-- a walker: how many looks were, and where ways ended -/
structure Wk where
  looks : Int
  ends : List B
/-- between which numbers any of them is -/
def outOf : List B → B
  | [] => bnil
  | x :: l => l.foldl bjoin x
abbrev VR := (Int × Int) × Wk
def wayOf (f : VS → Int → Wk → VR) (o : Option (VS × Int)) (w : Wk) : VR :=
  match o with
  | none => ((0, -1), w)
  | some x => f x.1 x.2 w
def thenOf (r : VR) (f : Wk → VR) : VR := if r.1.1 ≠ 0 then r else f r.2
/-- what comes of a step's ways -/
def waysOf (f : VS → Int → Wk → VR) (pc : Int) (w : Wk) : VRes → VR
  | .done b => ((0, -1), ⟨w.looks, w.ends ++ [b]⟩)
  | .err e => ((e, pc), w)
  | .go x y => thenOf (wayOf f x w) (wayOf f y)
/-- all ways from a step on: the first error (0: none) and its place; the walker behind it. The first number: fuel (a program leads only forward) -/
def vwalk (S : Nat → Step) : Nat → VS → Int → Wk → VR
  | 0, _, _, w => ((0, -1), w)
  | k + 1, s, pc, w =>
    if 4000 < w.looks + 1 then ((4, pc), ⟨w.looks + 1, w.ends⟩)
    else waysOf (vwalk S k) pc ⟨w.looks + 1, w.ends⟩ (s.step (S pc.toNat) pc)
def VS.init : VS := ⟨fun r => if r = 1 then ⟨2, bone 0⟩ else if r = 10 then ⟨3, bone 0⟩ else .nil, fun _ => .nil⟩
def vrun (S : Nat → Step) (n : Nat) : VR := vwalk S n VS.init 0 ⟨0, []⟩
/-- what comes of a program: (error, place), and between which numbers it ends -/
def verify (S : Nat → Step) (n : Nat) : (Int × Int) × B :=
  if (check S n).1 ≠ 0 then (check S n, bnil) else if (vrun S n).1.1 ≠ 0 then ((vrun S n).1, bnil) else ((0, -1), outOf (vrun S n).2.ends)

/-- a datum that may stand in a state -/
def WOk (w : Wh) : Prop := (w.kind = 0 ∨ w.kind = 1 ∨ w.kind = 2 ∨ w.kind = 3 ∨ w.kind = 4 ∨ w.kind = 5) ∧ w.b.Ok
def VSOk (s : VS) : Prop := (∀ r, WOk (s.regs r)) ∧ (∀ r, WOk (s.slots r))
theorem bnil_ok : bnil.Ok := by unfold bnil B.Ok In64; simp
theorem WOk.nil : WOk .nil := ⟨.inl rfl, bnil_ok⟩
theorem WOk.num {b : B} (h : b.Ok) : WOk (.num b) := ⟨.inr (.inl rfl), h⟩
theorem WOk.upd {f : Nat → Wh} (h : ∀ r, WOk (f r)) (i : Nat) {v : Wh} (hv : WOk v) : ∀ r, WOk (upd f i v r) := by
  intro r
  by_cases e : r = i
  · subst e; rw [upd_same]; exact hv
  · rw [upd_other e]; exact h r
theorem VSOk.setReg {s : VS} (h : VSOk s) (r : Int) {v : Wh} (hv : WOk v) : VSOk (s.setReg r v) := ⟨WOk.upd h.1 _ hv, h.2⟩
theorem VSOk.setReg' {s : VS} (h : VSOk s) (r : Nat) {v : Wh} (hv : WOk v) : VSOk { s with regs := P.upd s.regs r v } := ⟨WOk.upd h.1 _ hv, h.2⟩
theorem VSOk.setSlot {s : VS} (h : VSOk s) (r : Nat) {v : Wh} (hv : WOk v) : VSOk { s with slots := P.upd s.slots r v } := ⟨h.1, WOk.upd h.2 _ hv⟩
theorem in64_0 : In64 0 := by unfold In64; omega
theorem VSOk.init : VSOk VS.init := by
  refine ⟨fun r => ?_, fun s => WOk.nil⟩
  unfold VS.init
  simp only
  split
  · exact ⟨by simp, bone_ok in64_0⟩
  split
  · exact ⟨by simp, bone_ok in64_0⟩
  · exact WOk.nil
end Go.Proofs.YtfpoicdfkjbknaaDoor.P
