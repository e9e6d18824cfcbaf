/- A part of the proof; each theorem states its conditions. -/
import Derived.Test.YtpdlmbbgioenoaaGreatDoorPureOp
import Derived.Test.YtpdlmbbgioenoaaGreatDoorPureStep
import Derived.Test.YtpdlmbbgioenoaaGreatDoorImg
set_option linter.unusedSimpArgs false
set_option linter.unusedVariables false
namespace Go.Proofs.YtpdlmbbgioenoaaGreatDoor.P
open Go.RowKit (wrap64)
structure Val where
  kind : Int
  n : Int
  cell : Int
def Val.none : Val := ⟨0, 0, 0⟩
def Val.num (n : Int) : Val := ⟨1, n, 0⟩
structure Mach where
  regs : Nat → Val
  slots : Nat → Val
  cells : Nat → Int
  out : List Int
def low (kind : Int) : Int := if kind = 3 then -16 else 0
def high (kind : Int) : Int := if kind = 3 then -1 else if kind = 4 then 3 else 7
def far (v : Val) (off : Int) : Int × Int :=
  if v.kind = 0 then (0, 8) else if v.kind = 1 then (0, 1)
  else if wrap64 (v.n + off) < low v.kind ∨ high v.kind < wrap64 (v.n + off) then (0, 2) else (wrap64 (v.n + off), 0)
def Mach.load (M : Mach) (told : Nat → Int) (v : Val) (off : Int) : Val × Int :=
  if (far v off).2 ≠ 0 then (.none, (far v off).2)
  else if v.kind = 2 then (.num (told (far v off).1.toNat), 0)
  else if v.kind = 4 then (.num (M.cells (v.cell * 4 + (far v off).1).toNat), 0)
  else if (M.slots ((far v off).1 + 16).toNat).kind = 0 then (.none, 8) else (M.slots ((far v off).1 + 16).toNat, 0)
def Mach.store (M : Mach) (v : Val) (off : Int) (x : Val) : Mach × Int :=
  if (far v off).2 ≠ 0 then (M, (far v off).2)
  else if v.kind = 2 then (M, 6) else if x.kind = 0 then (M, 8)
  else if v.kind = 3 then ({ M with slots := upd M.slots ((far v off).1 + 16).toNat x }, 0)
  else if x.kind ≠ 1 then (M, 1) else ({ M with cells := upd M.cells (v.cell * 4 + (far v off).1).toNat x.n }, 0)
def Mach.second (M : Mach) (t : Step) : Val := if t.reg then M.regs t.src.toNat else .num t.num
def vcounts (c : Int) (a b : Val) : Val × Int :=
  if b.kind = 0 ∨ (a.kind = 0 ∧ c ≠ 1) then (.none, 8)
  else if c = 1 then (b, 0)
  else if a.kind = 1 ∧ b.kind = 1 then (.num (does c a.n b.n), 0)
  else if c = 2 ∧ a.kind = 1 then ({ b with n := does 2 b.n a.n }, 0)
  else if b.kind ≠ 1 ∨ (c ≠ 2 ∧ c ≠ 3) then (.none, 1)
  else ({ a with n := does c a.n b.n }, 0)
def Mach.call (M : Mach) (time n : Int) : Mach × Int :=
  if n ≠ 2 ∧ (M.regs 1).kind = 0 then (M, 8) else if n ≠ 2 ∧ (M.regs 1).kind ≠ 1 then (M, 1)
  else
    let x := (M.regs 1).n
    let r : Val := if n = 1 then (if 0 ≤ x ∧ x < 4 then ⟨4, 0, x⟩ else .num 0) else if n = 2 then .num time else .num 0
    ({ M with regs := fun j => if j = 0 then r else if 1 ≤ j ∧ j ≤ 5 then .none else M.regs j
              out := if n ≠ 1 ∧ n ≠ 2 ∧ M.out.length < 50 then M.out ++ [x] else M.out }, 0)
def Mach.asks (M : Mach) (t : Step) : Bool × Int :=
  let a := M.regs t.dst.toNat
  let b := M.second t
  if a.kind = 0 ∨ b.kind = 0 then (false, 8)
  else if a.kind = 1 ∧ b.kind = 1 then (is t.code a.n b.n, 0)
  else if t.reg = true ∨ t.num ≠ 0 ∨ (t.code ≠ 15 ∧ t.code ≠ 16) then (false, 1)
  else (decide (t.code = 16), 0)
inductive Res where
  | done (M : Mach) (n : Int)
  | err (e : Int)
  | go (M : Mach) (next : Int)
def Mach.step (M : Mach) (told : Nat → Int) (time : Int) (t : Step) (pc : Int) : Res :=
  if t.code = 28 then (if (M.regs 0).kind = 1 then .done M (M.regs 0).n else if (M.regs 0).kind = 0 then .err 8 else .err 1)
  else if t.code = 14 then .go M (pc + 1 + t.off)
  else if 15 ≤ t.code ∧ t.code ≤ 24 then (if (M.asks t).2 ≠ 0 then .err (M.asks t).2 else if (M.asks t).1 then .go M (pc + 1 + t.off) else .go M (pc + 1))
  else if t.code = 25 then (if (M.load told (M.regs t.src.toNat) t.off).2 ≠ 0 then .err (M.load told (M.regs t.src.toNat) t.off).2
    else .go { M with regs := upd M.regs t.dst.toNat (M.load told (M.regs t.src.toNat) t.off).1 } (pc + 1))
  else if t.code = 26 then (if (M.store (M.regs t.dst.toNat) t.off (M.second t)).2 ≠ 0 then .err (M.store (M.regs t.dst.toNat) t.off (M.second t)).2
    else .go (M.store (M.regs t.dst.toNat) t.off (M.second t)).1 (pc + 1))
  else if t.code = 27 then (if (M.call time t.num).2 ≠ 0 then .err (M.call time t.num).2 else .go (M.call time t.num).1 (pc + 1))
  else
    let b := if t.code = 13 then Val.num 0 else M.second t
    if (vcounts t.code (M.regs t.dst.toNat) b).2 ≠ 0 then .err (vcounts t.code (M.regs t.dst.toNat) b).2
    else .go { M with regs := upd M.regs t.dst.toNat (vcounts t.code (M.regs t.dst.toNat) b).1 } (pc + 1)
def Mach.run (S : Nat → Step) (told : Nat → Int) (time : Int) : Nat → Mach → Int → Int → (Int × Int) ⊕ (Mach × Int × Int)
  | 0, _, pc, _ => .inl (0, pc)
  | k + 1, M, pc, steps => match M.step told time (S pc.toNat) pc with
    | .done M n => .inr (M, n, steps)
    | .err e => .inl (e, pc)
    | .go M next => Mach.run S told time k M next (steps + 1)
end Go.Proofs.YtpdlmbbgioenoaaGreatDoor.P
