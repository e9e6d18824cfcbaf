/- The reference's way of reading registers, places and codes is asm's: plain. No conditions. -/
import Derived.Test.YtglilddlhibogaaGreatDoorPureBack
import Derived.Lib.ParseIntBTie
namespace Go.Proofs.YtglilddlhibogaaGreatDoor.P
set_option linter.unusedSimpArgs false
set_option linter.unusedVariables false

theorem rnum_some {s : List UInt8} {n : Int} (h : rnum s = some n) : s = num n ∧ In64 n := by
  unfold rnum at h
  rcases hp : Lib.parseIntB 64 s with v | _ | _
  · rw [hp] at h
    simp only at h
    by_cases hv : num v = s
    · rw [if_pos hv] at h; injection h with h; subst h
      refine ⟨hv.symm, ?_⟩
      have := Lib.parseIntB_bounds hp
      unfold In64; simp at this; omega
    · rw [if_neg hv] at h; cases h
  · rw [hp] at h; cases h
  · rw [hp] at h; cases h
theorem rreg_cons (c : UInt8) (r : List UInt8) : rreg (c :: r) = if c = 114 then regIn (rnum r) else none := rfl
theorem rreg_some {s : List UInt8} {r : Int} (h : rreg s = some r) : s = rg r ∧ 0 ≤ r ∧ r < 11 := by
  cases s with
  | nil => cases h
  | cons c q =>
    rw [rreg_cons] at h
    by_cases hc : c = 114
    · subst hc
      rw [if_pos rfl] at h
      cases hn : rnum q with
      | none => rw [hn] at h; cases h
      | some m =>
        rw [hn, regIn_some] at h
        by_cases hm : 0 ≤ m ∧ m < 11
        · rw [if_pos hm] at h; injection h with h; subst h
          exact ⟨by rw [(rnum_some hn).1]; rfl, hm⟩
        · rw [if_neg hm] at h; cases h
    · rw [if_neg hc] at h; cases h
theorem rreg_none {s : List UInt8} (h : ∀ j : Nat, j < 11 → s ≠ rg j) : rreg s = none := by
  cases hr : rreg s with
  | none => rfl
  | some r =>
    obtain ⟨h1, h2, h3⟩ := rreg_some hr
    exact absurd (by rw [h1, Int.toNat_of_nonneg h2]) (h r.toNat (by omega))
/-- a text of a register's place -/
theorem rplc_of {r : Int} (h : 0 ≤ r ∧ r ≤ 10) {m : List UInt8} (hd : (m.head?.map fun x => ([43, 45] : List UInt8).contains x) = some true) :
    rplc (91 :: (rg r ++ m ++ [93])) = (rnum (Lib.trimPrefix m [43])).map fun n => (r, n) := by
  have e1 : Lib.hasPrefix (91 :: (rg r ++ m ++ [93])) [91] = true := by simp [Lib.hasPrefix, List.isPrefixOf]
  have e2 : Lib.trimPrefix (91 :: (rg r ++ m ++ [93])) [91] = (rg r ++ m) ++ [93] := by unfold Lib.trimPrefix; rw [if_pos e1]; rfl
  have e3 : Lib.hasSuffix ((rg r ++ m) ++ [93]) [93] = true := by
    unfold Lib.hasSuffix; rw [List.isSuffixOf_iff_suffix]; exact ⟨_, rfl⟩
  have e4 : Lib.trimSuffix ((rg r ++ m) ++ [93]) [93] = rg r ++ m := by
    unfold Lib.trimSuffix; rw [if_pos e3]
    have e : (rg r ++ m ++ [93]).length - ([93] : List UInt8).length = (rg r ++ m).length := by simp
    rw [e, List.take_left]
  have e5 := idx_past [43, 45] (rg r) m (rg_clear h.1) hd
  unfold rplc
  rw [if_pos ⟨e1, by rw [e2]; exact e3⟩, e2, e4]
  unfold rinner
  rw [e5, if_neg (by omega), Int.toNat_natCast, List.take_left, List.drop_left, rreg_rg h]
  cases rnum (Lib.trimPrefix m [43]) <;> rfl
theorem prefix_of {s p : List UInt8} (h : Lib.hasPrefix s p = true) : ∃ q, s = p ++ q := by
  unfold Lib.hasPrefix at h
  obtain ⟨q, hq⟩ := List.isPrefixOf_iff_prefix.1 h
  exact ⟨q, hq.symm⟩
theorem suffix_of {s p : List UInt8} (h : Lib.hasSuffix s p = true) : ∃ q, s = q ++ p := by
  unfold Lib.hasSuffix at h
  obtain ⟨q, hq⟩ := List.isSuffixOf_iff_suffix.1 h
  exact ⟨q, hq.symm⟩
theorem idx_head {s c : List UInt8} {k : Nat} (h : Lib.indexAny s c = k) : ((s.drop k).head?.map fun x => c.contains x) = some true := by
  induction s generalizing k with
  | nil => simp [Lib.indexAny] at h <;> omega
  | cons x s ih =>
    unfold Lib.indexAny at h
    by_cases hx : c.contains x = true
    · rw [if_pos hx] at h
      obtain rfl : k = 0 := by omega
      simpa using hx
    · rw [if_neg hx] at h
      by_cases hm : (Lib.indexAny s c == -1) = true
      · rw [if_pos hm] at h; omega
      · rw [if_neg hm] at h
        have hg := Lib.indexAny_ge c s
        have hm' : Lib.indexAny s c ≠ -1 := by simpa using hm
        obtain ⟨k', rfl⟩ : ∃ k', k = k' + 1 := ⟨k - 1, by omega⟩
        rw [List.drop_succ_cons]
        exact ih (k := k') (by omega)
theorem rplc_some {s : List UInt8} {r n : Int} (h : rplc s = some (r, n)) : (0 ≤ r ∧ r < 11) ∧ ∃ m, s = 91 :: (rg r ++ m ++ [93]) ∧ (m.head?.map fun x => ([43, 45] : List UInt8).contains x) = some true ∧ rnum (Lib.trimPrefix m [43]) = some n := by
  unfold rplc at h
  by_cases h1 : Lib.hasPrefix s [91] = true ∧ Lib.hasSuffix (Lib.trimPrefix s [91]) [93] = true
  · rw [if_pos h1] at h
    obtain ⟨q, rfl⟩ := prefix_of h1.1
    have e2 : Lib.trimPrefix ([91] ++ q) [91] = q := by unfold Lib.trimPrefix; rw [if_pos h1.1]; rfl
    rw [e2] at h h1
    obtain ⟨m0, rfl⟩ := suffix_of h1.2
    have e4 : Lib.trimSuffix (m0 ++ [93]) [93] = m0 := by
      unfold Lib.trimSuffix; rw [if_pos h1.2]
      have e : (m0 ++ [93]).length - ([93] : List UInt8).length = m0.length := by simp
      rw [e, List.take_left]
    rw [e4] at h
    unfold rinner at h
    by_cases hk : Lib.indexAny m0 [43, 45] < 0
    · rw [if_pos hk] at h; cases h
    · rw [if_neg hk] at h
      obtain ⟨k, hk'⟩ := Int.eq_ofNat_of_zero_le (Int.not_lt.1 hk)
      rw [hk', Int.toNat_natCast] at h
      cases hr : rreg (m0.take k) with
      | none => rw [hr] at h; cases h
      | some r' =>
        cases hn : rnum (Lib.trimPrefix (m0.drop k) [43]) with
        | none => rw [hr, hn] at h; cases h
        | some n' =>
          rw [hr, hn] at h
          injection h with h; injection h with h2 h3; subst h2 h3
          obtain ⟨g1, g2, g3⟩ := rreg_some hr
          refine ⟨⟨g2, g3⟩, m0.drop k, ?_, idx_head hk', hn⟩
          rw [← g1, List.take_append_drop]; rfl
  · rw [if_neg h1] at h; cases h
/-- what the reference reads at a register -/
def refPart : List UInt8 → Option Int
  | [] => none
  | c :: y => if c = 43 then rnum y else if c = 45 then rnum (c :: y) else none
theorem refPart_cons (c : UInt8) (y : List UInt8) : refPart (c :: y) = if c = 43 then rnum y else if c = 45 then rnum (c :: y) else none := rfl
def refAt (s : List UInt8) (r : Int) : Option Int :=
  if Lib.hasPrefix s (91 :: rg r) = true ∧ Lib.hasSuffix s [93] = true ∧ (91 :: rg r).length + 1 < s.length then refPart ((s.take (s.length - 1)).drop (91 :: rg r).length) else none
theorem refPart_of {m : List UInt8} (hd : (m.head?.map fun x => ([43, 45] : List UInt8).contains x) = some true) : refPart m = rnum (Lib.trimPrefix m [43]) := by
  cases m with
  | nil => simp at hd
  | cons c y =>
    rw [refPart_cons]
    by_cases h1 : c = 43
    · subst h1; rw [if_pos rfl]; simp [Lib.trimPrefix, Lib.hasPrefix, List.isPrefixOf]
    · have h2 : c = 45 := by simpa [h1] using hd
      subst h2; rw [if_neg (by decide), if_pos rfl]; simp [Lib.trimPrefix, Lib.hasPrefix, List.isPrefixOf]
theorem refPart_head {m : List UInt8} {n : Int} (h : refPart m = some n) : (m.head?.map fun x => ([43, 45] : List UInt8).contains x) = some true := by
  cases m with
  | nil => cases h
  | cons c y =>
    rw [refPart_cons] at h
    by_cases h1 : c = 43
    · subst h1; rfl
    · rw [if_neg h1] at h
      by_cases h2 : c = 45
      · subst h2; rfl
      · rw [if_neg h2] at h; cases h
theorem ref_cut {s : List UInt8} {r : Int} (h : Lib.hasPrefix s (91 :: rg r) = true ∧ Lib.hasSuffix s [93] = true ∧ (91 :: rg r).length + 1 < s.length) :
    s = 91 :: (rg r ++ ((s.take (s.length - 1)).drop (91 :: rg r).length) ++ [93]) := by
  obtain ⟨h1, h2, h3⟩ := h
  obtain ⟨q, hq⟩ := suffix_of h2
  have hl : s.length = q.length + 1 := by rw [hq]; simp
  have ht : s.take (s.length - 1) = q := by rw [hl, hq]; simp
  rw [ht]
  obtain ⟨p, hp⟩ := prefix_of h1
  have hqp : q = (91 :: rg r) ++ q.drop (91 :: rg r).length := by
    have : q.take (91 :: rg r).length = 91 :: rg r := by
      have e : s.take (91 :: rg r).length = 91 :: rg r := by rw [hp, List.take_left]
      rw [← e, ← ht, List.take_take, List.length_take, Nat.min_eq_left (by omega), Nat.min_eq_left (by omega)]
    conv => lhs; rw [← List.take_append_drop (91 :: rg r).length q, this]
  conv => lhs; rw [hq, hqp]
  simp
theorem refAt_some {s : List UInt8} {r n : Int} (hr : 0 ≤ r ∧ r < 11) (h : refAt s r = some n) : rplc s = some (r, n) := by
  unfold refAt at h
  by_cases hc : Lib.hasPrefix s (91 :: rg r) = true ∧ Lib.hasSuffix s [93] = true ∧ (91 :: rg r).length + 1 < s.length
  · rw [if_pos hc] at h
    have hs := ref_cut hc
    generalize (s.take (s.length - 1)).drop (91 :: rg r).length = m at h hs
    have hd := refPart_head h
    rw [refPart_of hd] at h
    rw [hs, rplc_of (by omega) hd, h]; rfl
  · rw [if_neg hc] at h; cases h
theorem refAt_none {s : List UInt8} (h : ∀ j : Nat, j < 11 → refAt s j = none) : rplc s = none := by
  cases hr : rplc s with
  | none => rfl
  | some p =>
    obtain ⟨r, n⟩ := p
    obtain ⟨h1, m, hs, hd, hn⟩ := rplc_some hr
    have := h r.toNat (by omega)
    rw [Int.toNat_of_nonneg h1.1] at this
    unfold refAt at this
    have hm : m ≠ [] := by rintro rfl; simp at hd
    have hml : 1 ≤ m.length := by cases m; simp at hm; simp
    rw [if_pos ⟨by rw [hs]; unfold Lib.hasPrefix; rw [List.isPrefixOf_iff_prefix]; exact ⟨m ++ [93], by simp⟩,
      by rw [hs]; unfold Lib.hasSuffix; rw [List.isSuffixOf_iff_suffix]; exact ⟨91 :: (rg r ++ m), by simp⟩, by rw [hs]; simp; omega⟩] at this
    have e : (s.take (s.length - 1)).drop (91 :: rg r).length = m := by
      have e1 : s = ((91 :: rg r) ++ m) ++ [93] := by rw [hs]; simp
      have e2 : s.length - 1 = ((91 :: rg r) ++ m).length := by rw [e1]; simp; omega
      rw [e2, e1, List.take_left, List.drop_left]
    rw [e, refPart_of hd, hn] at this; cases this
/-- the last code below k whose name a word is -/
def lastm (x : List UInt8) : Nat → Int
  | 0 => 0
  | k + 1 => if 0 < k ∧ x = nm k then (k : Int) else lastm x k
theorem lastm_le (x : List UInt8) : ∀ k, 0 ≤ lastm x k ∧ lastm x k ≤ k
  | 0 => by simp [lastm]
  | k + 1 => by have := lastm_le x k; unfold lastm; split <;> omega
theorem nm_inj {i j : Nat} (hi : 1 ≤ i ∧ i ≤ 28) (hj : 1 ≤ j ∧ j ≤ 28) (h : nm i = nm j) : i = j := by
  have a := ncode_nm hi.1 hi.2
  rw [h, ncode_nm hj.1 hj.2] at a
  omega
theorem lastm_hit {x : List UInt8} {c : Nat} (hc : 1 ≤ c ∧ c ≤ 28) (hx : x = nm c) : ∀ k, k ≤ 29 → lastm x k = if c < k then (c : Int) else 0
  | 0, _ => by simp [lastm]
  | k + 1, h => by
    unfold lastm
    rw [lastm_hit hc hx k (by omega)]
    by_cases hk : 0 < k ∧ x = nm k
    · obtain rfl : c = k := nm_inj hc ⟨by omega, by omega⟩ (by rw [← hx, hk.2])
      rw [if_pos hk, if_pos (by omega)]
    · rw [if_neg hk]
      by_cases hck : c = k
      · subst hck; exact absurd ⟨by omega, hx⟩ hk
      · by_cases h1 : c < k
        · rw [if_pos h1, if_pos (by omega)]
        · rw [if_neg h1, if_neg (by omega)]
theorem lastm_miss {x : List UInt8} (h : ∀ c, 1 ≤ c → c ≤ 28 → x ≠ nm c) : ∀ k, k ≤ 29 → lastm x k = 0
  | 0, _ => rfl
  | k + 1, hk => by
    unfold lastm
    rw [if_neg (fun hh => h k (by omega) (by omega) hh.2), lastm_miss h k (by omega)]
theorem fidx_at (x : List UInt8) : ∀ (zs : List (List UInt8)) (i : Nat), 0 ≤ fidx zs x i → ∃ k, k < zs.length ∧ zs[k]? = some x ∧ fidx zs x i = (i + k : Nat)
  | [], i, h => by simp [fidx] at h
  | z :: zs, i, h => by
    unfold fidx at h ⊢
    by_cases hz : z = x
    · exact ⟨0, by simp, by simp [hz], by rw [if_pos hz]; rfl⟩
    · rw [if_neg hz] at h ⊢
      obtain ⟨k, h1, h2, h3⟩ := fidx_at x zs (i + 1) h
      exact ⟨k + 1, by simp; omega, by simpa using h2, by rw [h3]; omega⟩
/-- the code that the reference finds is asm's -/
theorem lastm_ncode (x : List UInt8) : lastm x 29 = ncode x := by
  by_cases h : ∃ c, 1 ≤ c ∧ c ≤ 28 ∧ x = nm c
  · obtain ⟨c, h1, h2, hx⟩ := h
    rw [lastm_hit ⟨h1, h2⟩ hx 29 (by omega), if_pos (by omega), hx, ncode_nm h1 h2]
  · have h' : ∀ c, 1 ≤ c → c ≤ 28 → x ≠ nm c := fun c h1 h2 hx => h ⟨c, h1, h2, hx⟩
    rw [lastm_miss h' 29 (by omega)]
    unfold ncode
    by_cases h0 : 0 ≤ fidx nms x 0
    · obtain ⟨k, k1, k2, k3⟩ := fidx_at x nms 0 h0
      rw [k3]
      have hk : nms.length = 29 := rfl
      have hx : x = nm k := by unfold nm; rw [List.getD_eq_getElem?_getD, k2]; rfl
      rcases Nat.eq_zero_or_pos k with rfl | hp
      · rfl
      · exact absurd hx (h' k hp (by omega))
    · omega
/-- the last thing that is called below k whose name a word is -/
def lastc (x : List UInt8) : Nat → Int
  | 0 => 0
  | k + 1 => if 0 < k ∧ x = cl k then (k : Int) else lastc x k
theorem lastc_ccode (x : List UInt8) : lastc x 4 = ccode x := by
  have e : lastc x 4 = if x = cl 3 then 3 else if x = cl 2 then 2 else if x = cl 1 then 1 else 0 := by
    unfold lastc lastc lastc lastc lastc; simp
  rw [e]
  by_cases h3 : x = cl 3
  · rw [if_pos h3, h3]; decide
  · rw [if_neg h3]
    by_cases h2 : x = cl 2
    · rw [if_pos h2, h2]; decide
    · rw [if_neg h2]
      by_cases h1 : x = cl 1
      · rw [if_pos h1, h1]; decide
      · rw [if_neg h1]
        unfold ccode
        by_cases h0 : 0 ≤ fidx cls x 0
        · obtain ⟨k, k1, k2, k3⟩ := fidx_at x cls 0 h0
          rw [k3]
          have hk : cls.length = 4 := rfl
          have hx : x = cl k := by unfold cl; rw [List.getD_eq_getElem?_getD, k2]; rfl
          rcases (by omega : k = 0 ∨ k = 1 ∨ k = 2 ∨ k = 3) with rfl | rfl | rfl | rfl
          · rfl
          · exact absurd hx h1
          · exact absurd hx h2
          · exact absurd hx h3
        · omega
end Go.Proofs.YtglilddlhibogaaGreatDoor.P
