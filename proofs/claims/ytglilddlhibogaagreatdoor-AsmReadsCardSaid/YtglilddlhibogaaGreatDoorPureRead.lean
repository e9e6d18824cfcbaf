/- Texts read: numbers: plain functions on bytes; a numeral that is written is read again. No conditions. -/
import Derived.Test.YtglilddlhibogaaGreatDoorPureAsm
import Derived.Lib.ParseIntB
import Derived.Lib.Strings
import Derived.Lib.IndexAny
import Derived.Lib.SlicesS
namespace Go.Proofs.YtglilddlhibogaaGreatDoor.P
set_option linter.unusedSimpArgs false
set_option linter.unusedVariables false

theorem pm_append (M : Nat) : ∀ (x y : List UInt8) (acc a : Nat), Lib.parseUintM M acc x = .ok a → Lib.parseUintM M acc (x ++ y) = Lib.parseUintM M a y
  | [], y, acc, a, h => by
    unfold Lib.parseUintM at h; injection h with h; subst h; rfl
  | c :: x, y, acc, a, h => by
    unfold Lib.parseUintM at h
    rw [List.cons_append]
    rw [Lib.parseUintM]
    split at h
    · rename_i h1
      rw [if_pos h1]
      split at h
      · cases h
      · rename_i h2
        rw [if_neg h2]
        split at h
        · cases h
        · rename_i h3
          rw [if_neg h3]
          exact pm_append M x y _ a h
    · cases h
theorem digit_nat {k : Nat} (h : k < 10) : (UInt8.ofNat (48 + k)).toNat = 48 + k := by
  simp [UInt8.toNat_ofNat']; omega
theorem pm_digit (M acc k : Nat) (hk : k < 10) (h1 : acc < 1844674407370955162) (h2 : acc * 10 + k ≤ M) : Lib.parseUintM M acc [UInt8.ofNat (48 + k)] = .ok (acc * 10 + k) := by
  unfold Lib.parseUintM
  rw [digit_nat hk, if_pos (by omega), if_neg (by omega), show 48 + k - 48 = k by omega, if_neg (by omega)]
  rfl
/-- digits that are written are read again -/
theorem pm_dec (M : Nat) (hM : M ≤ 18446744073709551615) : ∀ (u : Nat), u ≤ M → Lib.parseUintM M 0 (Lib.decDigits u) = .ok u := by
  intro u
  induction u using Nat.strongRecOn with
  | ind u ih =>
    intro h
    by_cases h1 : u < 10
    · rw [Lib.decDigits, dif_pos h1]
      have := pm_digit M 0 u h1 (by omega) (by omega)
      simpa using this
    · rw [Lib.decDigits, dif_neg h1]
      rw [pm_append M _ _ 0 (u / 10) (ih (u / 10) (by omega) (by omega)), pm_digit M (u / 10) (u % 10) (by omega) (by omega) (by omega)]
      rw [show u / 10 * 10 + u % 10 = u by omega]
theorem dec_ne (u : Nat) : Lib.decDigits u ≠ [] := by
  intro h
  have := congrArg List.length h
  rw [Lib.decDigits_length] at this
  have := Lib.nDigits_pos u
  simp at *; omega
theorem dec_head (u : Nat) : ∃ c r, Lib.decDigits u = c :: r ∧ 48 ≤ c.toNat ∧ c.toNat ≤ 57 := by
  induction u using Nat.strongRecOn with
  | ind u ih =>
    by_cases h1 : u < 10
    · exact ⟨_, [], by rw [Lib.decDigits, dif_pos h1], by rw [digit_nat h1]; omega, by rw [digit_nat h1]; omega⟩
    · obtain ⟨c, r, h, h2, h3⟩ := ih (u / 10) (by omega)
      exact ⟨c, r ++ [UInt8.ofNat (48 + u % 10)], by rw [Lib.decDigits, dif_neg h1, h]; rfl, h2, h3⟩
/-- a numeral that is written is read again -/
theorem parse_num {n : Int} (h : In64 n) : Lib.parseIntB 64 (num n) = .ok n := by
  unfold In64 at h
  unfold num Lib.itoa
  by_cases hn : n < 0
  · rw [if_pos hn]
    unfold Lib.parseIntB Lib.parseUintB
    have hd := dec_ne n.natAbs
    simp only [show (45 : UInt8).toNat = 45 from rfl, show ¬ (45 : Nat) = 43 by decide, false_or, if_true, if_neg hd]
    rw [pm_dec _ (by decide) _ (by omega)]
    simp only [not_true_eq_false, false_and, if_false, true_and, if_true]
    rw [if_neg (by omega)]
    congr 1; omega
  · rw [if_neg hn]
    obtain ⟨c, r, hc, h1, h2⟩ := dec_head n.toNat
    have hd := pm_dec (2 ^ 64 - 1) (by decide) n.toNat (by omega)
    rw [hc] at hd ⊢
    unfold Lib.parseIntB Lib.parseUintB
    simp only [show ¬ c.toNat = 43 by omega, show ¬ c.toNat = 45 by omega, or_self, if_false, reduceCtorEq, false_and, not_false_eq_true, true_and]
    rw [hd]
    simp only
    rw [if_neg (by omega)]
    congr 1; omega
theorem num_inj {m n : Int} (hm : In64 m) (hn : In64 n) (h : num m = num n) : m = n := by
  have := parse_num hm
  rw [h, parse_num hn] at this
  injection this with h; exact h.symm
/-- the number that a text is: its numeral, and no other text -/
def rnum (s : List UInt8) : Option Int :=
  match Lib.parseIntB 64 s with
  | .ok v => if num v = s then some v else none
  | _ => none
theorem rnum_num {n : Int} (h : In64 n) : rnum (num n) = some n := by
  unfold rnum; rw [parse_num h]; simp
def regIn : Option Int → Option Int
  | some n => if 0 ≤ n ∧ n < 11 then some n else none
  | none => none
/-- the register that a text is -/
def rreg : List UInt8 → Option Int
  | [] => none
  | c :: r => if c = 114 then regIn (rnum r) else none
theorem regIn_some (n : Int) : regIn (some n) = if 0 ≤ n ∧ n < 11 then some n else none := rfl
theorem rreg_r (r : List UInt8) : rreg (114 :: r) = regIn (rnum r) := by 
  show (if (114 : UInt8) = 114 then regIn (rnum r) else none) = regIn (rnum r)
  exact if_pos rfl
def rpair : Option Int → Option Int → Option (Int × Int)
  | some r, some n => some (r, n)
  | _, _ => none
theorem rpair_if (a b : Bool) (r n : Int) : rpair (if a = true then some r else none) (if b = true then some n else none) = if (a && b) = true then some (r, n) else none := by
  cases a <;> cases b <;> rfl
theorem bs_take (l : List UInt8) (k : Nat) : (ByteArray.mk l.toArray).extract 0 k = bs (l.take k) := by
  apply ByteArray.ext
  simp [bs]
theorem bs_drop' (l : List UInt8) (k : Nat) : (ByteArray.mk l.toArray).extract k l.length = bs (l.drop k) := by
  apply ByteArray.ext
  simp [bs]
  exact List.take_of_length_le (by simp)
theorem bs_drop (l : List UInt8) (k : Nat) : (ByteArray.mk l.toArray).extract k (ByteArray.mk l.toArray).size = bs (l.drop k) := by
  apply ByteArray.ext
  simp [bs, ByteArray.size]
  exact List.take_of_length_le (by simp)
/-- a register, and how far on, between their brackets -/
def rinner (s : List UInt8) : Option (Int × Int) :=
  if Lib.indexAny s [43, 45] < 0 then none
  else rpair (rreg (s.take (Lib.indexAny s [43, 45]).toNat)) (rnum (Lib.trimPrefix (s.drop (Lib.indexAny s [43, 45]).toNat) [43]))
/-- the register, and how far on, that a text is -/
def rplc (s : List UInt8) : Option (Int × Int) :=
  if Lib.hasPrefix s [91] = true ∧ Lib.hasSuffix (Lib.trimPrefix s [91]) [93] = true then rinner (Lib.trimSuffix (Lib.trimPrefix s [91]) [93]) else none
theorem trimPrefix_le (s p : List UInt8) : (Lib.trimPrefix s p).length ≤ s.length := by unfold Lib.trimPrefix; split <;> simp
theorem trimSuffix_le (s p : List UInt8) : (Lib.trimSuffix s p).length ≤ s.length := by unfold Lib.trimSuffix; split <;> simp
theorem indexAny_le (c : List UInt8) : ∀ (s : List UInt8), Lib.indexAny s c ≤ s.length ∧ -1 ≤ Lib.indexAny s c
  | [] => by simp [Lib.indexAny]
  | b :: s => by
    have := indexAny_le c s
    unfold Lib.indexAny
    split
    · simp; omega
    · split
      · simp; omega
      · rename_i h; simp at h; simp; omega
def rsecIn : Option Int → Option Int → Option (Bool × Int × Int)
  | some n, _ => some (false, 0, n)
  | none, some r => some (true, r, 0)
  | none, none => none
/-- the second operand that a text is: whether it is a register; which one; the number -/
def rsec (s : List UInt8) : Option (Bool × Int × Int) := rsecIn (rnum s) (rreg s)
/-- where a text stands in a list (-1: nowhere) -/
def fidx : List (List UInt8) → List UInt8 → Nat → Int
  | [], _, _ => -1
  | z :: zs, x, i => if z = x then i else fidx zs x (i + 1)
theorem bs_inj {x y : List UInt8} (h : bs x = bs y) : x = y := by rw [← bs_data x, ← bs_data y, h]
theorem idx_bs (x : List UInt8) : ∀ (zs : List (List UInt8)) (i : Nat), Lib.idxFromS (zs.map bs) (bs x) i = fidx zs x i
  | [], _ => rfl
  | z :: zs, i => by
    simp only [List.map_cons, Lib.idxFromS, fidx]
    by_cases h : z = x
    · rw [if_pos h, if_pos (by rw [h])]
    · rw [if_neg h, if_neg (fun e => h (bs_inj e))]; exact idx_bs x zs (i + 1)
theorem fidx_lt (x : List UInt8) : ∀ (zs : List (List UInt8)) (i : Nat), -1 ≤ fidx zs x i ∧ fidx zs x i < i + zs.length ∨ fidx zs x i = -1
  | [], _ => .inr rfl
  | z :: zs, i => by
    unfold fidx
    split
    · left; simp; omega
    · rcases fidx_lt x zs (i + 1) with ⟨h1, h2⟩ | h
      · left; simp at *; omega
      · right; exact h
/-- the code, and what is called, that a word names (0: none) -/
def ncode (x : List UInt8) : Int := max (fidx nms x 0) 0
def ccode (x : List UInt8) : Int := max (fidx cls x 0) 0
theorem ncode_lt (x : List UInt8) : 0 ≤ ncode x ∧ ncode x < 29 := by
  unfold ncode
  have h := fidx_lt x nms 0
  rw [show nms.length = 29 from rfl] at h
  omega
theorem ccode_lt (x : List UInt8) : 0 ≤ ccode x ∧ ccode x < 4 := by
  unfold ccode
  have h := fidx_lt x cls 0
  rw [show cls.length = 4 from rfl] at h
  omega
def mk3 (c : Int) : Option Int → Option (Bool × Int × Int) → Int → Option Step
  | some d, some (g, s, n), o => some ⟨c, d, s, g, o, n⟩
  | _, _, _ => none
/-- the step that words are, the first of which names a code -/
def roneAt (c : Int) (r : List (List UInt8)) : Option Step :=
    if c = 0 then none
    else if c = 28 then (if r = [] then some ⟨28, 0, 0, false, 0, 0⟩ else none)
    else if c = 27 then (match r with | [y] => some ⟨27, 0, 0, false, 0, ccode y⟩ | _ => none)
    else if c = 14 then (match r with | [y] => (rnum y).map fun n => ⟨14, 0, 0, false, n, 0⟩ | _ => none)
    else if c = 13 then (match r with | [y] => (rreg y).map fun d => ⟨13, d, 0, false, 0, 0⟩ | _ => none)
    else if 15 ≤ c ∧ c ≤ 24 then (match r with | [y, z, u] => (rnum u).bind fun o => mk3 c (rreg y) (rsec z) o | _ => none)
    else if c = 25 then (match r with | [y, z] => (rreg y).bind fun d => (rplc z).map fun p => ⟨25, d, p.1, false, p.2, 0⟩ | _ => none)
    else if c = 26 then (match r with | [y, z] => (rplc y).bind fun p => mk3 26 (some p.1) (rsec z) p.2 | _ => none)
    else (match r with | [y, z] => mk3 c (rreg y) (rsec z) 0 | _ => none)
/-- the step that words are -/
def rone : List (List UInt8) → Option Step
  | [] => none
  | x :: r => roneAt (ncode x) r
theorem rone_cons (x : List UInt8) (r : List (List UInt8)) : rone (x :: r) = roneAt (ncode x) r := rfl
theorem rone_0 (r : List (List UInt8)) : roneAt 0 r = none := rfl
theorem rone_28 (r : List (List UInt8)) : roneAt 28 r = if r = [] then some ⟨28, 0, 0, false, 0, 0⟩ else none := rfl
theorem rone_27 (y : List UInt8) : roneAt 27 [y] = some ⟨27, 0, 0, false, 0, ccode y⟩ := by unfold roneAt; rw [if_neg (by omega), if_neg (by omega), if_pos (by omega)]
theorem rone_27_bad {r : List (List UInt8)} (hl : r.length ≠ 1) : roneAt 27 r = none := by
  unfold roneAt; rw [if_neg (by omega), if_neg (by omega), if_pos (by omega)]
  split
  · simp at hl
  · rfl
theorem rone_14 (y : List UInt8) : roneAt 14 [y] = (rnum y).map fun n => ⟨14, 0, 0, false, n, 0⟩ := by unfold roneAt; rw [if_neg (by omega), if_neg (by omega), if_neg (by omega), if_pos (by omega)]
theorem rone_14_bad {r : List (List UInt8)} (hl : r.length ≠ 1) : roneAt 14 r = none := by
  unfold roneAt; rw [if_neg (by omega), if_neg (by omega), if_neg (by omega), if_pos (by omega)]
  split
  · simp at hl
  · rfl
theorem rone_13 (y : List UInt8) : roneAt 13 [y] = (rreg y).map fun d => ⟨13, d, 0, false, 0, 0⟩ := by unfold roneAt; rw [if_neg (by omega), if_neg (by omega), if_neg (by omega), if_neg (by omega), if_pos (by omega)]
theorem rone_13_bad {r : List (List UInt8)} (hl : r.length ≠ 1) : roneAt 13 r = none := by
  unfold roneAt; rw [if_neg (by omega), if_neg (by omega), if_neg (by omega), if_neg (by omega), if_pos (by omega)]
  split
  · simp at hl
  · rfl
theorem rone_ask {c : Int} (h : 15 ≤ c ∧ c ≤ 24) (y z u : List UInt8) : roneAt c [y, z, u] = (rnum u).bind fun o => mk3 c (rreg y) (rsec z) o := by unfold roneAt; rw [if_neg (by omega), if_neg (by omega), if_neg (by omega), if_neg (by omega), if_neg (by omega), if_pos (by omega)]
theorem rone_ask_bad {c : Int} (h : 15 ≤ c ∧ c ≤ 24) {r : List (List UInt8)} (hl : r.length ≠ 3) : roneAt c r = none := by
  unfold roneAt; rw [if_neg (by omega), if_neg (by omega), if_neg (by omega), if_neg (by omega), if_neg (by omega), if_pos (by omega)]
  split
  · simp at hl
  · rfl
theorem rone_25 (y z : List UInt8) : roneAt 25 [y, z] = (rreg y).bind fun d => (rplc z).map fun p => ⟨25, d, p.1, false, p.2, 0⟩ := by unfold roneAt; rw [if_neg (by omega), if_neg (by omega), if_neg (by omega), if_neg (by omega), if_neg (by omega), if_neg (by omega), if_pos (by omega)]
theorem rone_25_bad {r : List (List UInt8)} (hl : r.length ≠ 2) : roneAt 25 r = none := by
  unfold roneAt; rw [if_neg (by omega), if_neg (by omega), if_neg (by omega), if_neg (by omega), if_neg (by omega), if_neg (by omega), if_pos (by omega)]
  split
  · simp at hl
  · rfl
theorem rone_26 (y z : List UInt8) : roneAt 26 [y, z] = (rplc y).bind fun p => mk3 26 (some p.1) (rsec z) p.2 := by unfold roneAt; rw [if_neg (by omega), if_neg (by omega), if_neg (by omega), if_neg (by omega), if_neg (by omega), if_neg (by omega), if_neg (by omega), if_pos (by omega)]
theorem rone_26_bad {r : List (List UInt8)} (hl : r.length ≠ 2) : roneAt 26 r = none := by
  unfold roneAt; rw [if_neg (by omega), if_neg (by omega), if_neg (by omega), if_neg (by omega), if_neg (by omega), if_neg (by omega), if_neg (by omega), if_pos (by omega)]
  split
  · simp at hl
  · rfl
theorem rone_make {c : Int} (h : 1 ≤ c ∧ c ≤ 12) (y z : List UInt8) : roneAt c [y, z] = mk3 c (rreg y) (rsec z) 0 := by unfold roneAt; rw [if_neg (by omega), if_neg (by omega), if_neg (by omega), if_neg (by omega), if_neg (by omega), if_neg (by omega), if_neg (by omega), if_neg (by omega)]
theorem rone_make_bad {c : Int} (h : 1 ≤ c ∧ c ≤ 12) {r : List (List UInt8)} (hl : r.length ≠ 2) : roneAt c r = none := by
  unfold roneAt; rw [if_neg (by omega), if_neg (by omega), if_neg (by omega), if_neg (by omega), if_neg (by omega), if_neg (by omega), if_neg (by omega), if_neg (by omega)]
  split
  · simp at hl
  · rfl
end Go.Proofs.YtglilddlhibogaaGreatDoor.P
