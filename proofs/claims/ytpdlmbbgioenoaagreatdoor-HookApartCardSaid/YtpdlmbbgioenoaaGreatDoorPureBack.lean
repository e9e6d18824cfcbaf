/- A part of the proof; each theorem states its conditions. -/
import Derived.Test.YtpdlmbbgioenoaaGreatDoorPureWords
set_option linter.unusedSimpArgs false
set_option linter.unusedVariables false
namespace Go.Proofs.YtpdlmbbgioenoaaGreatDoor.P
def okb (x : UInt8) : Prop := x ≠ 32 ∧ x ≠ 59 ∧ x ≠ 43
instance (x : UInt8) : Decidable (okb x) := by unfold okb; exact inferInstance
theorem oks_dec (u : Nat) : ∀ x ∈ Lib.decDigits u, 48 ≤ x.toNat ∧ x.toNat ≤ 57 := by
  induction u using Nat.strongRecOn with
  | ind u ih =>
    by_cases h1 : u < 10
    · rw [Lib.decDigits, dif_pos h1]
      intro x hx
      rw [List.mem_singleton] at hx; subst hx
      have := digit_nat h1
      omega
    · rw [Lib.decDigits, dif_neg h1]
      intro x hx
      rcases List.mem_append.1 hx with hx | hx
      · exact ih (u / 10) (by omega) x hx
      · simp only [List.mem_singleton] at hx; subst hx
        have := digit_nat (k := u % 10) (by omega)
        omega
theorem okb_digit {x : UInt8} (h : 48 ≤ x.toNat ∧ x.toNat ≤ 57) : okb x ∧ x ≠ 45 := by
  refine ⟨⟨?_, ?_, ?_⟩, ?_⟩ <;> (rintro rfl; revert h; decide)
theorem num_ne (n : Int) : num n ≠ [] := by
  unfold num Lib.itoa; split
  · simp
  · exact dec_ne _
theorem sec_ne (t : Step) : sec t ≠ [] := by unfold sec rg; split; simp; exact num_ne _
theorem nm_ne {c : Nat} (h1 : 1 ≤ c) (h2 : c ≤ 28) : nm c ≠ [] := by
  have : ∀ c : Fin 29, 1 ≤ c.1 → nm c.1 ≠ [] := by decide
  exact this ⟨c, by omega⟩ h1
theorem cl_ne {c : Nat} (h1 : 1 ≤ c) (h2 : c ≤ 3) : cl c ≠ [] := by
  have : ∀ c : Fin 4, 1 ≤ c.1 → cl c.1 ≠ [] := by decide
  exact this ⟨c, by omega⟩ h1
theorem wrong_zero {t : Step} (h : t.wrong = 0) : (1 ≤ t.code ∧ t.code ≤ 28) ∧ (0 ≤ t.dst ∧ t.dst ≤ 10 ∧ 0 ≤ t.src ∧ t.src ≤ 10) ∧ ¬ bad t.code t.dst t.src t.reg t.off t.num := by
  unfold Step.wrong wrong at h
  by_cases h1 : t.code < 1 ∨ 28 < t.code
  · rw [if_pos h1] at h; omega
  · rw [if_neg h1] at h
    by_cases h2 : t.dst < 0 ∨ 10 < t.dst ∨ t.src < 0 ∨ 10 < t.src
    · rw [if_pos h2] at h; omega
    · rw [if_neg h2] at h
      by_cases h3 : (t.code ≤ 13 ∨ t.code = 25) ∧ t.dst = 10
      · rw [if_pos h3] at h; omega
      · rw [if_neg h3] at h
        by_cases h4 : bad t.code t.dst t.src t.reg t.off t.num
        · rw [if_pos h4] at h; omega
        · exact ⟨by omega, by omega, h4⟩
theorem plc_ne (r o : Int) : plc r o ≠ [] := by unfold plc; simp
theorem words_ne {t : Step} (h : t.wrong = 0) : ∀ y ∈ words t, y ≠ [] := by
  obtain ⟨h1, h2, h3⟩ := wrong_zero h
  have hc := nm_ne (c := t.code.toNat) (by omega) (by omega)
  intro y hy
  unfold words at hy
  by_cases e28 : t.code = 28
  · rw [if_pos e28] at hy; simp at hy; subst hy; decide
  rw [if_neg e28] at hy
  by_cases e27 : t.code = 27
  · rw [if_pos e27] at hy; simp at hy
    have hb : 1 ≤ t.num ∧ t.num ≤ 3 := by
      unfold bad at h3; rw [e27] at h3; omega
    rcases hy with rfl | rfl
    · decide
    · exact cl_ne (by omega) (by omega)
  rw [if_neg e27] at hy
  repeat' split at hy
  all_goals (simp only [List.mem_cons, List.not_mem_nil, or_false] at hy)
  · rcases hy with rfl | rfl; decide; exact num_ne _
  · rcases hy with rfl | rfl; decide; simp [rg]
  · rcases hy with rfl | rfl | rfl; decide; simp [rg]; exact plc_ne _ _
  · rcases hy with rfl | rfl | rfl; decide; exact plc_ne _ _; exact sec_ne _
  · rcases hy with rfl | rfl | rfl | rfl; exact hc; simp [rg]; exact sec_ne _; exact num_ne _
  · rcases hy with rfl | rfl | rfl; exact hc; simp [rg]; exact sec_ne _
theorem ncode_nm {c : Nat} (h1 : 1 ≤ c) (h2 : c ≤ 28) : ncode (nm c) = c := by
  have : ∀ c : Fin 29, 1 ≤ c.1 → ncode (nm c.1) = (c.1 : Int) := by decide
  exact this ⟨c, by omega⟩ h1
theorem ccode_cl {c : Nat} (h1 : 1 ≤ c) (h2 : c ≤ 3) : ccode (cl c) = c := by
  have : ∀ c : Fin 4, 1 ≤ c.1 → ccode (cl c.1) = (c.1 : Int) := by decide
  exact this ⟨c, by omega⟩ h1
theorem rreg_rg {r : Int} (h : 0 ≤ r ∧ r ≤ 10) : rreg (rg r) = some r := by
  unfold rg; rw [rreg_r, rnum_num (by unfold In64; omega), regIn_some, if_pos (by omega)]
theorem rnum_rg (r : Int) : rnum (rg r) = none := by
  have hn := num_ne r
  unfold rnum rg Lib.parseIntB Lib.parseUintB
  simp only [show (114 : UInt8).toNat = 114 from rfl, show ¬ ((114 : Nat) = 43 ∨ (114 : Nat) = 45) by decide, if_false, reduceCtorEq]
  unfold Lib.parseUintM
  simp only [show (114 : UInt8).toNat = 114 from rfl, show ¬ (48 ≤ 114 ∧ 114 ≤ (57 : Nat)) by decide, if_false]
theorem rsec_sec {t : Step} (h : 0 ≤ t.src ∧ t.src ≤ 10) (hn : In64 t.num) : rsec (sec t) = some (t.reg, if t.reg = true then t.src else 0, if t.reg = true then 0 else t.num) := by
  unfold sec rsec
  by_cases hr : t.reg = true
  · rw [if_pos hr, if_pos hr, if_pos hr, rnum_rg, rreg_rg h, hr]; rfl
  · rw [if_neg hr, if_neg hr, if_neg hr, rnum_num hn]
    simp only [rsecIn]; rw [Bool.eq_false_iff.2 hr]
theorem idx_past (c : List UInt8) : ∀ (a b : List UInt8), (∀ x ∈ a, c.contains x = false) → (b.head?.map fun x => c.contains x) = some true → Lib.indexAny (a ++ b) c = a.length
  | [], b, _, hb => by
    cases b with
    | nil => simp at hb
    | cons x b =>
      have hx : c.contains x = true := by simpa using hb
      rw [List.nil_append, Lib.indexAny, if_pos hx]; rfl
  | x :: a, b, ha, hb => by
    rw [List.cons_append, Lib.indexAny, if_neg (by rw [ha x (by simp)]; simp), idx_past c a b (fun y hy => ha y (by simp [hy])) hb]
    rw [if_neg (by simp <;> omega)]
    simp
theorem rg_clear {r : Int} (h : 0 ≤ r) : ∀ x ∈ rg r, ([43, 45] : List UInt8).contains x = false := by
  intro x hx
  have key : ∀ x : UInt8, x ≠ 43 → x ≠ 45 → ([43, 45] : List UInt8).contains x = false := by
    intro x h1 h2; simp [h1, h2]
  rcases List.mem_cons.1 hx with rfl | hx
  · decide
  · unfold num Lib.itoa at hx
    rw [if_neg (by omega)] at hx
    have := okb_digit (oks_dec _ x hx)
    exact key x this.1.2.2 this.2
theorem num_neg {o : Int} (h : o < 0) : ∃ r, num o = 45 :: r := by
  unfold num Lib.itoa; rw [if_pos h]; exact ⟨_, rfl⟩
theorem rplc_plc {r o : Int} (h : 0 ≤ r ∧ r ≤ 10) (ho : In64 o) : rplc (plc r o) = some (r, o) := by
  obtain ⟨m, hm⟩ : ∃ m, (if o < 0 then ([] : List UInt8) else [43]) ++ num o = m := ⟨_, rfl⟩
  have hp : plc r o = 91 :: ((rg r ++ m) ++ [93]) := by unfold plc; rw [← hm]; simp [List.append_assoc]
  have e1 : Lib.hasPrefix (plc r o) [91] = true := by rw [hp]; simp [Lib.hasPrefix, List.isPrefixOf]
  have e2 : Lib.trimPrefix (plc r o) [91] = (rg r ++ m) ++ [93] := by unfold Lib.trimPrefix; rw [if_pos e1, hp]; rfl
  have e3 : Lib.hasSuffix ((rg r ++ m) ++ [93]) [93] = true := by
    unfold Lib.hasSuffix; rw [List.isSuffixOf_iff_suffix]; exact ⟨_, rfl⟩
  have e4 : Lib.trimSuffix ((rg r ++ m) ++ [93]) [93] = rg r ++ m := by
    unfold Lib.trimSuffix; rw [if_pos e3]
    have e : (rg r ++ m ++ [93]).length - ([93] : List UInt8).length = (rg r ++ m).length := by simp
    rw [e, List.take_left]
  have hd : (m.head?.map fun x => ([43, 45] : List UInt8).contains x) = some true := by
    rw [← hm]; by_cases hn : o < 0
    · obtain ⟨q, hq⟩ := num_neg hn; rw [if_pos hn, hq]; rfl
    · rw [if_neg hn]; rfl
  have e5 := idx_past [43, 45] (rg r) m (rg_clear h.1) hd
  have e6 : Lib.trimPrefix m [43] = num o := by
    rw [← hm]; by_cases hn : o < 0
    · obtain ⟨q, hq⟩ := num_neg hn; rw [if_pos hn, hq]; simp [Lib.trimPrefix, Lib.hasPrefix, List.isPrefixOf]
    · rw [if_neg hn]; simp [Lib.trimPrefix, Lib.hasPrefix, List.isPrefixOf]
  unfold rplc
  rw [if_pos ⟨e1, by rw [e2]; exact e3⟩, e2, e4]
  unfold rinner
  rw [e5, if_neg (by omega), Int.toNat_natCast, List.take_left, List.drop_left, e6, rreg_rg h, rnum_num ho]; rfl
theorem rone_words {t : Step} (h : t.wrong = 0) (ho : In64 t.off) (hn : In64 t.num) : rone (words t) = some t := by
  obtain ⟨h1, h2, h3⟩ := wrong_zero h
  have hc := ncode_nm (c := t.code.toNat) (by omega) (by omega)
  rw [Int.toNat_of_nonneg (by omega)] at hc
  obtain ⟨c, d, s, g, o, n⟩ := t
  simp only at h1 h2 h3 ho hn hc
  have hsec := rsec_sec (t := ⟨c, d, s, g, o, n⟩) h2.2.2 hn
  simp only at hsec
  unfold bad two at h3
  unfold words
  simp only
  by_cases e28 : c = 28
  · subst e28
    rw [if_pos rfl, rone_cons]
    rw [show ncode (nm 28) = 28 by decide, rone_28, if_pos rfl]
    obtain ⟨rfl, rfl, rfl, rfl, rfl⟩ : d = 0 ∧ s = 0 ∧ g = false ∧ o = 0 ∧ n = 0 := by
      cases g <;> simp at h3 ⊢ <;> omega
    rfl
  rw [if_neg e28]
  by_cases e27 : c = 27
  · subst e27
    obtain ⟨rfl, rfl, rfl, rfl, k1, k2⟩ : d = 0 ∧ s = 0 ∧ g = false ∧ o = 0 ∧ 1 ≤ n ∧ n ≤ 3 := by
      cases g <;> simp at h3 ⊢ <;> omega
    rw [if_pos rfl, rone_cons, show ncode (nm 27) = 27 by decide, rone_27, ccode_cl (by omega) (by omega), Int.toNat_of_nonneg (by omega)]
  rw [if_neg e27]
  by_cases e14 : c = 14
  · subst e14
    obtain ⟨rfl, rfl, rfl, rfl⟩ : d = 0 ∧ s = 0 ∧ g = false ∧ n = 0 := by
      cases g <;> simp at h3 ⊢ <;> omega
    rw [if_pos rfl, rone_cons, show ncode (nm 14) = 14 by decide, rone_14, rnum_num ho]; rfl
  rw [if_neg e14]
  by_cases e13 : c = 13
  · subst e13
    obtain ⟨rfl, rfl, rfl, rfl⟩ : s = 0 ∧ g = false ∧ o = 0 ∧ n = 0 := by
      cases g <;> simp at h3 ⊢ <;> omega
    rw [if_pos rfl, rone_cons, show ncode (nm 13) = 13 by decide, rone_13, rreg_rg (by omega)]; rfl
  rw [if_neg e13]
  by_cases e25 : c = 25
  · subst e25
    obtain ⟨rfl, rfl⟩ : g = false ∧ n = 0 := by
      cases g <;> simp at h3 ⊢ <;> omega
    rw [if_pos rfl, rone_cons, show ncode (nm 25) = 25 by decide, rone_25, rreg_rg (by omega), rplc_plc (by omega) ho]; rfl
  rw [if_neg e25]
  have hsn : (if g = true then s else 0) = s ∧ (if g = true then 0 else n) = n := by
    cases g <;> simp at h3 ⊢ <;> omega
  by_cases e26 : c = 26
  · subst e26
    rw [if_pos rfl, rone_cons, show ncode (nm 26) = 26 by decide, rone_26, rplc_plc (by omega) ho, hsec, hsn.1, hsn.2]; rfl
  rw [if_neg e26]
  by_cases ea : 15 ≤ c ∧ c ≤ 24
  · rw [if_pos ea, rone_cons, hc, rone_ask ea, rnum_num ho, hsec, hsn.1, hsn.2, rreg_rg (by omega)]; rfl
  rw [if_neg ea]
  have ho0 : o = 0 := by cases g <;> simp at h3 ⊢ <;> omega
  subst ho0
  rw [rone_cons, hc, rone_make (by omega), hsec, hsn.1, hsn.2, rreg_rg (by omega)]; rfl
def first (S : Nat → Step) (n : Nat) : List Step := (List.range n).map S
theorem first_length (S : Nat → Step) (n : Nat) : (first S n).length = n := by simp [first]
theorem nth_first (S : Nat → Step) (n i : Nat) (h : i < n) : nth (first S n) i = S i := by
  unfold nth first; rw [List.getD_eq_getElem?_getD]; simp [h]
end Go.Proofs.YtpdlmbbgioenoaaGreatDoor.P
