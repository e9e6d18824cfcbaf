/- A part of the proof; each theorem states its conditions. -/
import Derived.Test.YtpdlmbbgioenoaaGreatDoorPureStep
import Derived.Test.YtpdlmbbgioenoaaGreatDoorPureBound
import Derived.Lib.ItoaNum
import Derived.Lib.Join
set_option linter.unusedSimpArgs false
set_option linter.unusedVariables false
namespace Go.Proofs.YtpdlmbbgioenoaaGreatDoor.P
def bs (l : List UInt8) : ByteArray := ⟨l.toArray⟩
theorem bs_data (l : List UInt8) : (bs l).data.toList = l := by simp [bs]
def nms : List (List UInt8) := [[], [109, 111, 118], [97, 100, 100], [115, 117, 98], [109, 117, 108], [100, 105, 118], [109, 111, 100], [97, 110, 100], [111, 114], [120, 111, 114], [108, 115, 104], [114, 115, 104], [97, 114, 115, 104], [110, 101, 103], [106, 117, 109, 112], [106, 101, 113], [106, 110, 101], [106, 103, 116], [106, 103, 101], [106, 108, 116], [106, 108, 101], [106, 115, 103, 116], [106, 115, 103, 101], [106, 115, 108, 116], [106, 115, 108, 101], [108, 111, 97, 100], [115, 116, 111, 114, 101], [99, 97, 108, 108], [101, 120, 105, 116]]
def cls : List (List UInt8) := [[], [102, 105, 110, 100], [116, 105, 109, 101], [101, 109, 105, 116]]
def nm (c : Nat) : List UInt8 := nms.getD c []
def cl (c : Nat) : List UInt8 := cls.getD c []
def num (n : Int) : List UInt8 := Lib.itoa n
def rg (n : Int) : List UInt8 := 114 :: num n
def sec (t : Step) : List UInt8 := if t.reg = true then rg t.src else num t.num
def plc (r off : Int) : List UInt8 := [91] ++ rg r ++ (if off < 0 then [] else [43]) ++ num off ++ [93]
def words (t : Step) : List (List UInt8) :=
  if t.code = 28 then [nm 28]
  else if t.code = 27 then [nm 27, cl t.num.toNat]
  else if t.code = 14 then [nm 14, num t.off]
  else if t.code = 13 then [nm 13, rg t.dst]
  else if t.code = 25 then [nm 25, rg t.dst, plc t.src t.off]
  else if t.code = 26 then [nm 26, plc t.dst t.off, sec t]
  else if 15 ≤ t.code ∧ t.code ≤ 24 then [nm t.code.toNat, rg t.dst, sec t, num t.off]
  else [nm t.code.toNat, rg t.dst, sec t]
theorem wd_exit (d s : Int) (r : Bool) (o n : Int) : words ⟨28, d, s, r, o, n⟩ = [nm 28] := by unfold words; rw [if_pos rfl]
theorem wd_call (d s : Int) (r : Bool) (o n : Int) : words ⟨27, d, s, r, o, n⟩ = [nm 27, cl n.toNat] := by unfold words; rw [if_neg (by simp), if_pos rfl]
theorem wd_load (d s : Int) (r : Bool) (o n : Int) : words ⟨25, d, s, r, o, n⟩ = [nm 25, rg d, plc s o] := by unfold words; rw [if_neg (by simp), if_neg (by simp), if_neg (by simp), if_neg (by simp), if_pos rfl]
theorem wd_store (d s : Int) (r : Bool) (o n : Int) : words ⟨26, d, s, r, o, n⟩ = [nm 26, plc d o, sec ⟨26, d, s, r, o, n⟩] := by unfold words; rw [if_neg (by simp), if_neg (by simp), if_neg (by simp), if_neg (by simp), if_neg (by simp), if_pos rfl]
theorem wd_ask {c : Int} (h : 15 ≤ c ∧ c ≤ 24) (d s : Int) (r : Bool) (o n : Int) : words ⟨c, d, s, r, o, n⟩ = [nm c.toNat, rg d, sec ⟨c, d, s, r, o, n⟩, num o] := by
  unfold words; rw [if_neg (by simp only; omega), if_neg (by simp only; omega), if_neg (by simp only; omega), if_neg (by simp only; omega), if_neg (by simp only; omega), if_neg (by simp only; omega), if_pos h]
theorem wd_make {c : Int} (h : c ≤ 12) (d s : Int) (r : Bool) (o n : Int) : words ⟨c, d, s, r, o, n⟩ = [nm c.toNat, rg d, sec ⟨c, d, s, r, o, n⟩] := by
  unfold words; rw [if_neg (by simp only; omega), if_neg (by simp only; omega), if_neg (by simp only; omega), if_neg (by simp only; omega), if_neg (by simp only; omega), if_neg (by simp only; omega), if_neg (by simp only; omega)]
theorem decDigits_length (u : Nat) : (Lib.decDigits u).length = Lib.nDigits u := by
  exact Lib.decDigits_length u
end Go.Proofs.YtpdlmbbgioenoaaGreatDoor.P
