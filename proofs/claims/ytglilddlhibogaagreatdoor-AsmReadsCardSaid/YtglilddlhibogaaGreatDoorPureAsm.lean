/- Programs as text: what a step is written as: plain functions on bytes. No conditions. -/
import Derived.Test.YtglilddlhibogaaGreatDoorPureStep
import Derived.Test.YtglilddlhibogaaGreatDoorPureBound
import Derived.Lib.ItoaNum
import Derived.Lib.Join
namespace Go.Proofs.YtglilddlhibogaaGreatDoor.P

/-- a text of these bytes -/
def bs (l : List UInt8) : ByteArray := ⟨l.toArray⟩
theorem bs_data (l : List UInt8) : (bs l).data.toList = l := by simp [bs]
theorem bs_append (x y : List UInt8) : bs x ++ bs y = bs (x ++ y) := by
  apply ByteArray.ext
  simp [bs]
theorem bs_map (l : List (List UInt8)) : (l.map bs).map (·.data.toList) = l := by
  induction l with
  | nil => rfl
  | cons x l ih => simp only [List.map_cons, bs_data, ih]
/-- the codes' names -/
def nms : List (List UInt8) := [[], [109, 111, 118], [97, 100, 100], [115, 117, 98], [109, 117, 108], [100, 105, 118], [109, 111, 100], [97, 110, 100], [111, 114], [120, 111, 114], [108, 115, 104], [114, 115, 104], [97, 114, 115, 104], [110, 101, 103], [106, 117, 109, 112], [106, 101, 113], [106, 110, 101], [106, 103, 116], [106, 103, 101], [106, 108, 116], [106, 108, 101], [106, 115, 103, 116], [106, 115, 103, 101], [106, 115, 108, 116], [106, 115, 108, 101], [108, 111, 97, 100], [115, 116, 111, 114, 101], [99, 97, 108, 108], [101, 120, 105, 116]]
def cls : List (List UInt8) := [[], [102, 105, 110, 100], [116, 105, 109, 101], [101, 109, 105, 116]]
def nm (c : Nat) : List UInt8 := nms.getD c []
def cl (c : Nat) : List UInt8 := cls.getD c []
def num (n : Int) : List UInt8 := Lib.itoa n
def rg (n : Int) : List UInt8 := 114 :: num n
/-- a step's second operand -/
def sec (t : Step) : List UInt8 := if t.reg = true then rg t.src else num t.num
/-- a register, and how far on -/
def plc (r off : Int) : List UInt8 := [91] ++ rg r ++ (if off < 0 then [] else [43]) ++ num off ++ [93]
/-- the words of a step -/
def words (t : Step) : List (List UInt8) :=
  if t.code = 28 then [nm 28]
  else if t.code = 27 then [nm 27, cl t.num.toNat]
  else if t.code = 14 then [nm 14, num t.off]
  else if t.code = 13 then [nm 13, rg t.dst]
  else if t.code = 25 then [nm 25, rg t.dst, plc t.src t.off]
  else if t.code = 26 then [nm 26, plc t.dst t.off, sec t]
  else if 15 ≤ t.code ∧ t.code ≤ 24 then [nm t.code.toNat, rg t.dst, sec t, num t.off]
  else [nm t.code.toNat, rg t.dst, sec t]
def stepText (t : Step) : List UInt8 := Lib.join (words t) [32]
def texts (S : Nat → Step) (n : Nat) : List (List UInt8) := (List.range n).map fun i => stepText (S i)
theorem texts_succ (S : Nat → Step) (n : Nat) : texts S (n + 1) = texts S n ++ [stepText (S n)] := by simp [texts, List.range_succ]
theorem texts_length (S : Nat → Step) (n : Nat) : (texts S n).length = n := by simp [texts]
def progText (S : Nat → Step) (n : Nat) : List UInt8 := Lib.join (texts S n) [59, 32]
theorem join_two (x y s : List UInt8) : Lib.join [x, y] s = x ++ s ++ y := by simp [Lib.join_cons, Lib.joinTail]
theorem join_three (x y z s : List UInt8) : Lib.join [x, y, z] s = x ++ s ++ y ++ s ++ z := by simp [Lib.join_cons, Lib.joinTail]
theorem join_four (x y z u s : List UInt8) : Lib.join [x, y, z, u] s = x ++ s ++ y ++ s ++ z ++ s ++ u := by simp [Lib.join_cons, Lib.joinTail]
theorem wd_exit (d s : Int) (r : Bool) (o n : Int) : words ⟨28, d, s, r, o, n⟩ = [nm 28] := by unfold words; rw [if_pos rfl]
theorem wd_call (d s : Int) (r : Bool) (o n : Int) : words ⟨27, d, s, r, o, n⟩ = [nm 27, cl n.toNat] := by unfold words; rw [if_neg (by simp), if_pos rfl]
theorem wd_jump (d s : Int) (r : Bool) (o n : Int) : words ⟨14, d, s, r, o, n⟩ = [nm 14, num o] := by unfold words; rw [if_neg (by simp), if_neg (by simp), if_pos rfl]
theorem wd_neg (d s : Int) (r : Bool) (o n : Int) : words ⟨13, d, s, r, o, n⟩ = [nm 13, rg d] := by unfold words; rw [if_neg (by simp), if_neg (by simp), if_neg (by simp), if_pos rfl]
theorem wd_load (d s : Int) (r : Bool) (o n : Int) : words ⟨25, d, s, r, o, n⟩ = [nm 25, rg d, plc s o] := by unfold words; rw [if_neg (by simp), if_neg (by simp), if_neg (by simp), if_neg (by simp), if_pos rfl]
theorem wd_store (d s : Int) (r : Bool) (o n : Int) : words ⟨26, d, s, r, o, n⟩ = [nm 26, plc d o, sec ⟨26, d, s, r, o, n⟩] := by unfold words; rw [if_neg (by simp), if_neg (by simp), if_neg (by simp), if_neg (by simp), if_neg (by simp), if_pos rfl]
theorem wd_ask {c : Int} (h : 15 ≤ c ∧ c ≤ 24) (d s : Int) (r : Bool) (o n : Int) : words ⟨c, d, s, r, o, n⟩ = [nm c.toNat, rg d, sec ⟨c, d, s, r, o, n⟩, num o] := by
  unfold words; rw [if_neg (by simp only; omega), if_neg (by simp only; omega), if_neg (by simp only; omega), if_neg (by simp only; omega), if_neg (by simp only; omega), if_neg (by simp only; omega), if_pos h]
theorem wd_make {c : Int} (h : c ≤ 12) (d s : Int) (r : Bool) (o n : Int) : words ⟨c, d, s, r, o, n⟩ = [nm c.toNat, rg d, sec ⟨c, d, s, r, o, n⟩] := by
  unfold words; rw [if_neg (by simp only; omega), if_neg (by simp only; omega), if_neg (by simp only; omega), if_neg (by simp only; omega), if_neg (by simp only; omega), if_neg (by simp only; omega), if_neg (by simp only; omega)]
theorem st_exit (d s : Int) (r : Bool) (o n : Int) : stepText ⟨28, d, s, r, o, n⟩ = nm 28 := by unfold stepText words; simp [Lib.join_one]
theorem st_call (d s : Int) (r : Bool) (o n : Int) : stepText ⟨27, d, s, r, o, n⟩ = nm 27 ++ [32] ++ cl n.toNat := by unfold stepText words; rw [if_neg (by simp), if_pos rfl, join_two]
theorem st_jump (d s : Int) (r : Bool) (o n : Int) : stepText ⟨14, d, s, r, o, n⟩ = nm 14 ++ [32] ++ num o := by unfold stepText words; rw [if_neg (by simp), if_neg (by simp), if_pos rfl, join_two]
theorem st_neg (d s : Int) (r : Bool) (o n : Int) : stepText ⟨13, d, s, r, o, n⟩ = nm 13 ++ [32] ++ rg d := by unfold stepText words; rw [if_neg (by simp), if_neg (by simp), if_neg (by simp), if_pos rfl, join_two]
theorem st_load (d s : Int) (r : Bool) (o n : Int) : stepText ⟨25, d, s, r, o, n⟩ = nm 25 ++ [32] ++ rg d ++ [32] ++ plc s o := by unfold stepText words; rw [if_neg (by simp), if_neg (by simp), if_neg (by simp), if_neg (by simp), if_pos rfl, join_three]
theorem st_store (d s : Int) (r : Bool) (o n : Int) : stepText ⟨26, d, s, r, o, n⟩ = nm 26 ++ [32] ++ plc d o ++ [32] ++ sec ⟨26, d, s, r, o, n⟩ := by unfold stepText words; rw [if_neg (by simp), if_neg (by simp), if_neg (by simp), if_neg (by simp), if_neg (by simp), if_pos rfl, join_three]
theorem st_ask {c : Int} (h : 15 ≤ c ∧ c ≤ 24) (d s : Int) (r : Bool) (o n : Int) : stepText ⟨c, d, s, r, o, n⟩ = nm c.toNat ++ [32] ++ rg d ++ [32] ++ sec ⟨c, d, s, r, o, n⟩ ++ [32] ++ num o := by
  unfold stepText words
  rw [if_neg (by simp only; omega), if_neg (by simp only; omega), if_neg (by simp only; omega), if_neg (by simp only; omega), if_neg (by simp only; omega), if_neg (by simp only; omega), if_pos h, join_four]
theorem st_make {c : Int} (h : c ≤ 12) (d s : Int) (r : Bool) (o n : Int) : stepText ⟨c, d, s, r, o, n⟩ = nm c.toNat ++ [32] ++ rg d ++ [32] ++ sec ⟨c, d, s, r, o, n⟩ := by
  unfold stepText words
  rw [if_neg (by simp only; omega), if_neg (by simp only; omega), if_neg (by simp only; omega), if_neg (by simp only; omega), if_neg (by simp only; omega), if_neg (by simp only; omega), if_neg (by simp only; omega), join_three]
/-! how long -/
theorem decDigits_length (u : Nat) : (Lib.decDigits u).length = Lib.nDigits u := by
  exact Lib.decDigits_length u
theorem nDigits_le : ∀ (k u : Nat), u < 10 ^ (k + 1) → Lib.nDigits u ≤ k + 1
  | 0, u, h => by rw [Lib.nDigits_small (by simpa using h)]; omega
  | k + 1, u, h => by
    rw [Lib.nDigits]
    split
    · omega
    · have := nDigits_le k (u / 10) (by rw [Nat.div_lt_iff_lt_mul (by omega)]; rw [Nat.pow_succ] at h; exact h)
      omega
theorem num_length {n : Int} (h : In64 n) : (num n).length ≤ 20 := by
  unfold In64 at h
  unfold num Lib.itoa
  split
  · rw [List.length_cons, decDigits_length]
    have := nDigits_le 18 n.natAbs (by have : n.natAbs ≤ 9223372036854775808 := by omega
                                       omega)
    omega
  · rw [decDigits_length]
    have := nDigits_le 18 n.toNat (by have : n.toNat ≤ 9223372036854775808 := by omega
                                      omega)
    omega
theorem nm_length (c : Nat) : (nm c).length ≤ 5 := by
  unfold nm nms
  rcases c with _ | _ | _ | _ | _ | _ | _ | _ | _ | _ | _ | _ | _ | _ | _ | _ | _ | _ | _ | _ | _ | _ | _ | _ | _ | _ | _ | _ | _ | c <;> simp
theorem cl_length (c : Nat) : (cl c).length ≤ 4 := by
  unfold cl cls
  rcases c with _ | _ | _ | _ | c <;> simp
theorem stepText_length (t : Step) (h1 : In64 t.dst) (h2 : In64 t.src) (h3 : In64 t.off) (h4 : In64 t.num) : (stepText t).length ≤ 200 := by
  have e1 := num_length h1; have e2 := num_length h2; have e3 := num_length h3; have e4 := num_length h4
  have s1 : (rg t.dst).length ≤ 21 := by unfold rg; simp; omega
  have s2 : (rg t.src).length ≤ 21 := by unfold rg; simp; omega
  have s3 : (sec t).length ≤ 21 := by unfold sec; split <;> omega
  have s4 : ∀ r, (rg r).length ≤ 21 → (plc r t.off).length ≤ 50 := fun r h => by unfold plc; split <;> simp <;> omega
  have s5 := s4 _ s1; have s6 := s4 _ s2
  have c1 := nm_length t.code.toNat; have c2 := cl_length t.num.toNat
  have d1 := nm_length 28; have d2 := nm_length 27; have d3 := nm_length 14; have d4 := nm_length 13; have d5 := nm_length 25; have d6 := nm_length 26
  unfold stepText words
  repeat' split
  all_goals first | rw [Lib.join_one] | rw [join_two] | rw [join_three] | rw [join_four]
  all_goals try simp only [List.length_append, List.length_cons, List.length_nil]
  all_goals omega
theorem joinTail_length (s : List UInt8) (B : Nat) : ∀ (r : List (List UInt8)), (∀ x ∈ r, x.length ≤ B) → (Lib.joinTail s r).length ≤ r.length * (s.length + B)
  | [], _ => by simp [Lib.joinTail]
  | x :: r, h => by
    have h1 := joinTail_length s B r fun y hy => h y (by simp [hy])
    have h2 := h x (by simp)
    unfold Lib.joinTail at h1 ⊢
    simp only [List.map_cons, List.flatten_cons, List.length_append, List.length_cons]
    rw [Nat.add_mul]
    omega
theorem join_length (s : List UInt8) (B : Nat) (l : List (List UInt8)) (h : ∀ x ∈ l, x.length ≤ B) : (Lib.join l s).length ≤ l.length * (s.length + B) := by
  cases l with
  | nil => simp [Lib.join]
  | cons x r =>
    rw [Lib.join_cons, List.length_append, List.length_cons, Nat.add_mul]
    have h1 := joinTail_length s B r fun y hy => h y (by simp [hy])
    have h2 := h x (by simp)
    omega
end Go.Proofs.YtglilddlhibogaaGreatDoor.P
