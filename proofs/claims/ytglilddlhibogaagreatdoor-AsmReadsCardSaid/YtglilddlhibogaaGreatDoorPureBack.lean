/- A program's text is that program again: plain. Conditions: nothing is wrong with the program; its numbers fit 64 bits. -/
import Derived.Test.YtglilddlhibogaaGreatDoorPureWords
namespace Go.Proofs.YtglilddlhibogaaGreatDoor.P
set_option linter.unusedSimpArgs false
set_option linter.unusedVariables false

/-! ### what stands in a word -/
def okb (x : UInt8) : Prop := x ≠ 32 ∧ x ≠ 59 ∧ x ≠ 43
instance (x : UInt8) : Decidable (okb x) := by unfold okb; exact inferInstance
def oks (l : List UInt8) : Prop := ∀ x ∈ l, okb x
theorem oks_dec (u : Nat) : ∀ x ∈ Lib.decDigits u, 48 ≤ x.toNat ∧ x.toNat ≤ 57 := by
  induction u using Nat.strongRecOn with
  | ind u ih =>
    by_cases h1 : u < 10
    · rw [Lib.decDigits, dif_pos h1]
      intro x hx
      rw [List.mem_singleton] at hx; subst hx
      have := digit_nat h1
      omega
    · rw [Lib.decDigits, dif_neg h1]
      intro x hx
      rcases List.mem_append.1 hx with hx | hx
      · exact ih (u / 10) (by omega) x hx
      · simp only [List.mem_singleton] at hx; subst hx
        have := digit_nat (k := u % 10) (by omega)
        omega
theorem okb_digit {x : UInt8} (h : 48 ≤ x.toNat ∧ x.toNat ≤ 57) : okb x ∧ x ≠ 45 := by
  refine ⟨⟨?_, ?_, ?_⟩, ?_⟩ <;> (rintro rfl; revert h; decide)
theorem oks_num (n : Int) : oks (num n) := by
  unfold num Lib.itoa
  split
  · intro x hx
    rcases List.mem_cons.1 hx with rfl | hx
    · decide
    · exact (okb_digit (oks_dec _ x hx)).1
  · intro x hx
    exact (okb_digit (oks_dec _ x hx)).1
theorem oks_app {a b : List UInt8} (ha : oks a) (hb : oks b) : oks (a ++ b) := fun x hx => (List.mem_append.1 hx).elim (ha x) (hb x)
theorem oks_rg (n : Int) : oks (rg n) := by
  intro x hx
  rcases List.mem_cons.1 hx with rfl | hx
  · decide
  · exact oks_num n x hx
theorem oks_sec (t : Step) : oks (sec t) := by unfold sec; split; exact oks_rg _; exact oks_num _
def okw (x : UInt8) : Prop := x ≠ 32 ∧ x ≠ 59
theorem okw_plc (r o : Int) : ∀ x ∈ plc r o, okw x := by
  intro x hx
  unfold plc at hx
  simp only [List.mem_append] at hx
  rcases hx with (((hx | hx) | hx) | hx) | hx
  · simp at hx; subst hx; unfold okw; decide
  · have := oks_rg r x hx; exact ⟨this.1, this.2.1⟩
  · split at hx
    · simp at hx
    · simp at hx; subst hx; unfold okw; decide
  · have := oks_num o x hx; exact ⟨this.1, this.2.1⟩
  · simp at hx; subst hx; unfold okw; decide
theorem okw_nms : ∀ y ∈ nms, ∀ x ∈ y, x ≠ 32 ∧ x ≠ 59 := by decide
theorem okw_cls : ∀ y ∈ cls, ∀ x ∈ y, x ≠ 32 ∧ x ≠ 59 := by decide
theorem okw_nm (c : Nat) : ∀ x ∈ nm c, okw x := by
  intro x hx
  unfold nm at hx
  rw [List.getD_eq_getElem?_getD] at hx
  by_cases h : c < nms.length
  · rw [List.getElem?_eq_getElem h] at hx
    exact okw_nms _ (List.getElem_mem h) x hx
  · rw [List.getElem?_eq_none (by omega)] at hx; simp at hx
theorem okw_cl (c : Nat) : ∀ x ∈ cl c, okw x := by
  intro x hx
  unfold cl at hx
  rw [List.getD_eq_getElem?_getD] at hx
  by_cases h : c < cls.length
  · rw [List.getElem?_eq_getElem h] at hx
    exact okw_cls _ (List.getElem_mem h) x hx
  · rw [List.getElem?_eq_none (by omega)] at hx; simp at hx
theorem okw_of {l : List UInt8} (h : oks l) : ∀ x ∈ l, okw x := fun x hx => ⟨(h x hx).1, (h x hx).2.1⟩
theorem okw_words (t : Step) : ∀ y ∈ words t, ∀ x ∈ y, okw x := by
  intro y hy
  unfold words at hy
  repeat' split at hy
  all_goals (simp only [List.mem_cons, List.not_mem_nil, or_false] at hy)
  · subst hy; exact okw_nm _
  · rcases hy with rfl | rfl; exact okw_nm _; exact okw_cl _
  · rcases hy with rfl | rfl; exact okw_nm _; exact okw_of (oks_num _)
  · rcases hy with rfl | rfl; exact okw_nm _; exact okw_of (oks_rg _)
  · rcases hy with rfl | rfl | rfl; exact okw_nm _; exact okw_of (oks_rg _); exact okw_plc _ _
  · rcases hy with rfl | rfl | rfl; exact okw_nm _; exact okw_plc _ _; exact okw_of (oks_sec _)
  · rcases hy with rfl | rfl | rfl | rfl; exact okw_nm _; exact okw_of (oks_rg _); exact okw_of (oks_sec _); exact okw_of (oks_num _)
  · rcases hy with rfl | rfl | rfl; exact okw_nm _; exact okw_of (oks_rg _); exact okw_of (oks_sec _)
theorem num_ne (n : Int) : num n ≠ [] := by
  unfold num Lib.itoa; split
  · simp
  · exact dec_ne _
theorem sec_ne (t : Step) : sec t ≠ [] := by unfold sec rg; split; simp; exact num_ne _
theorem nm_ne {c : Nat} (h1 : 1 ≤ c) (h2 : c ≤ 28) : nm c ≠ [] := by
  have : ∀ c : Fin 29, 1 ≤ c.1 → nm c.1 ≠ [] := by decide
  exact this ⟨c, by omega⟩ h1
theorem cl_ne {c : Nat} (h1 : 1 ≤ c) (h2 : c ≤ 3) : cl c ≠ [] := by
  have : ∀ c : Fin 4, 1 ≤ c.1 → cl c.1 ≠ [] := by decide
  exact this ⟨c, by omega⟩ h1
/-- what a step of which nothing is wrong looks like -/
theorem wrong_zero {t : Step} (h : t.wrong = 0) : (1 ≤ t.code ∧ t.code ≤ 28) ∧ (0 ≤ t.dst ∧ t.dst ≤ 10 ∧ 0 ≤ t.src ∧ t.src ≤ 10) ∧ ¬ bad t.code t.dst t.src t.reg t.off t.num := by
  unfold Step.wrong wrong at h
  by_cases h1 : t.code < 1 ∨ 28 < t.code
  · rw [if_pos h1] at h; omega
  · rw [if_neg h1] at h
    by_cases h2 : t.dst < 0 ∨ 10 < t.dst ∨ t.src < 0 ∨ 10 < t.src
    · rw [if_pos h2] at h; omega
    · rw [if_neg h2] at h
      by_cases h3 : (t.code ≤ 13 ∨ t.code = 25) ∧ t.dst = 10
      · rw [if_pos h3] at h; omega
      · rw [if_neg h3] at h
        by_cases h4 : bad t.code t.dst t.src t.reg t.off t.num
        · rw [if_pos h4] at h; omega
        · exact ⟨by omega, by omega, h4⟩
theorem plc_ne (r o : Int) : plc r o ≠ [] := by unfold plc; simp
theorem words_ne {t : Step} (h : t.wrong = 0) : ∀ y ∈ words t, y ≠ [] := by
  obtain ⟨h1, h2, h3⟩ := wrong_zero h
  have hc := nm_ne (c := t.code.toNat) (by omega) (by omega)
  intro y hy
  unfold words at hy
  by_cases e28 : t.code = 28
  · rw [if_pos e28] at hy; simp at hy; subst hy; decide
  rw [if_neg e28] at hy
  by_cases e27 : t.code = 27
  · rw [if_pos e27] at hy; simp at hy
    have hb : 1 ≤ t.num ∧ t.num ≤ 3 := by
      unfold bad at h3; rw [e27] at h3; omega
    rcases hy with rfl | rfl
    · decide
    · exact cl_ne (by omega) (by omega)
  rw [if_neg e27] at hy
  repeat' split at hy
  all_goals (simp only [List.mem_cons, List.not_mem_nil, or_false] at hy)
  · rcases hy with rfl | rfl; decide; exact num_ne _
  · rcases hy with rfl | rfl; decide; simp [rg]
  · rcases hy with rfl | rfl | rfl; decide; simp [rg]; exact plc_ne _ _
  · rcases hy with rfl | rfl | rfl; decide; exact plc_ne _ _; exact sec_ne _
  · rcases hy with rfl | rfl | rfl | rfl; exact hc; simp [rg]; exact sec_ne _; exact num_ne _
  · rcases hy with rfl | rfl | rfl; exact hc; simp [rg]; exact sec_ne _
/-! ### the words are the step -/
theorem ncode_nm {c : Nat} (h1 : 1 ≤ c) (h2 : c ≤ 28) : ncode (nm c) = c := by
  have : ∀ c : Fin 29, 1 ≤ c.1 → ncode (nm c.1) = (c.1 : Int) := by decide
  exact this ⟨c, by omega⟩ h1
theorem ccode_cl {c : Nat} (h1 : 1 ≤ c) (h2 : c ≤ 3) : ccode (cl c) = c := by
  have : ∀ c : Fin 4, 1 ≤ c.1 → ccode (cl c.1) = (c.1 : Int) := by decide
  exact this ⟨c, by omega⟩ h1
theorem rreg_rg {r : Int} (h : 0 ≤ r ∧ r ≤ 10) : rreg (rg r) = some r := by
  unfold rg; rw [rreg_r, rnum_num (by unfold In64; omega), regIn_some, if_pos (by omega)]
theorem rnum_rg (r : Int) : rnum (rg r) = none := by
  have hn := num_ne r
  unfold rnum rg Lib.parseIntB Lib.parseUintB
  simp only [show (114 : UInt8).toNat = 114 from rfl, show ¬ ((114 : Nat) = 43 ∨ (114 : Nat) = 45) by decide, if_false, reduceCtorEq]
  unfold Lib.parseUintM
  simp only [show (114 : UInt8).toNat = 114 from rfl, show ¬ (48 ≤ 114 ∧ 114 ≤ (57 : Nat)) by decide, if_false]
theorem rsec_sec {t : Step} (h : 0 ≤ t.src ∧ t.src ≤ 10) (hn : In64 t.num) : rsec (sec t) = some (t.reg, if t.reg = true then t.src else 0, if t.reg = true then 0 else t.num) := by
  unfold sec rsec
  by_cases hr : t.reg = true
  · rw [if_pos hr, if_pos hr, if_pos hr, rnum_rg, rreg_rg h, hr]; rfl
  · rw [if_neg hr, if_neg hr, if_neg hr, rnum_num hn]
    simp only [rsecIn]; rw [Bool.eq_false_iff.2 hr]
theorem idx_past (c : List UInt8) : ∀ (a b : List UInt8), (∀ x ∈ a, c.contains x = false) → (b.head?.map fun x => c.contains x) = some true → Lib.indexAny (a ++ b) c = a.length
  | [], b, _, hb => by
    cases b with
    | nil => simp at hb
    | cons x b =>
      have hx : c.contains x = true := by simpa using hb
      rw [List.nil_append, Lib.indexAny, if_pos hx]; rfl
  | x :: a, b, ha, hb => by
    rw [List.cons_append, Lib.indexAny, if_neg (by rw [ha x (by simp)]; simp), idx_past c a b (fun y hy => ha y (by simp [hy])) hb]
    rw [if_neg (by simp <;> omega)]
    simp
theorem rg_clear {r : Int} (h : 0 ≤ r) : ∀ x ∈ rg r, ([43, 45] : List UInt8).contains x = false := by
  intro x hx
  have key : ∀ x : UInt8, x ≠ 43 → x ≠ 45 → ([43, 45] : List UInt8).contains x = false := by
    intro x h1 h2; simp [h1, h2]
  rcases List.mem_cons.1 hx with rfl | hx
  · decide
  · unfold num Lib.itoa at hx
    rw [if_neg (by omega)] at hx
    have := okb_digit (oks_dec _ x hx)
    exact key x this.1.2.2 this.2
theorem num_neg {o : Int} (h : o < 0) : ∃ r, num o = 45 :: r := by
  unfold num Lib.itoa; rw [if_pos h]; exact ⟨_, rfl⟩
theorem rplc_plc {r o : Int} (h : 0 ≤ r ∧ r ≤ 10) (ho : In64 o) : rplc (plc r o) = some (r, o) := by
  obtain ⟨m, hm⟩ : ∃ m, (if o < 0 then ([] : List UInt8) else [43]) ++ num o = m := ⟨_, rfl⟩
  have hp : plc r o = 91 :: ((rg r ++ m) ++ [93]) := by unfold plc; rw [← hm]; simp [List.append_assoc]
  have e1 : Lib.hasPrefix (plc r o) [91] = true := by rw [hp]; simp [Lib.hasPrefix, List.isPrefixOf]
  have e2 : Lib.trimPrefix (plc r o) [91] = (rg r ++ m) ++ [93] := by unfold Lib.trimPrefix; rw [if_pos e1, hp]; rfl
  have e3 : Lib.hasSuffix ((rg r ++ m) ++ [93]) [93] = true := by
    unfold Lib.hasSuffix; rw [List.isSuffixOf_iff_suffix]; exact ⟨_, rfl⟩
  have e4 : Lib.trimSuffix ((rg r ++ m) ++ [93]) [93] = rg r ++ m := by
    unfold Lib.trimSuffix; rw [if_pos e3]
    have e : (rg r ++ m ++ [93]).length - ([93] : List UInt8).length = (rg r ++ m).length := by simp
    rw [e, List.take_left]
  have hd : (m.head?.map fun x => ([43, 45] : List UInt8).contains x) = some true := by
    rw [← hm]; by_cases hn : o < 0
    · obtain ⟨q, hq⟩ := num_neg hn; rw [if_pos hn, hq]; rfl
    · rw [if_neg hn]; rfl
  have e5 := idx_past [43, 45] (rg r) m (rg_clear h.1) hd
  have e6 : Lib.trimPrefix m [43] = num o := by
    rw [← hm]; by_cases hn : o < 0
    · obtain ⟨q, hq⟩ := num_neg hn; rw [if_pos hn, hq]; simp [Lib.trimPrefix, Lib.hasPrefix, List.isPrefixOf]
    · rw [if_neg hn]; simp [Lib.trimPrefix, Lib.hasPrefix, List.isPrefixOf]
  unfold rplc
  rw [if_pos ⟨e1, by rw [e2]; exact e3⟩, e2, e4]
  unfold rinner
  rw [e5, if_neg (by omega), Int.toNat_natCast, List.take_left, List.drop_left, e6, rreg_rg h, rnum_num ho]; rfl
theorem rone_words {t : Step} (h : t.wrong = 0) (ho : In64 t.off) (hn : In64 t.num) : rone (words t) = some t := by
  obtain ⟨h1, h2, h3⟩ := wrong_zero h
  have hc := ncode_nm (c := t.code.toNat) (by omega) (by omega)
  rw [Int.toNat_of_nonneg (by omega)] at hc
  obtain ⟨c, d, s, g, o, n⟩ := t
  simp only at h1 h2 h3 ho hn hc
  have hsec := rsec_sec (t := ⟨c, d, s, g, o, n⟩) h2.2.2 hn
  simp only at hsec
  unfold bad two at h3
  unfold words
  simp only
  by_cases e28 : c = 28
  · subst e28
    rw [if_pos rfl, rone_cons]
    rw [show ncode (nm 28) = 28 by decide, rone_28, if_pos rfl]
    obtain ⟨rfl, rfl, rfl, rfl, rfl⟩ : d = 0 ∧ s = 0 ∧ g = false ∧ o = 0 ∧ n = 0 := by
      cases g <;> simp at h3 ⊢ <;> omega
    rfl
  rw [if_neg e28]
  by_cases e27 : c = 27
  · subst e27
    obtain ⟨rfl, rfl, rfl, rfl, k1, k2⟩ : d = 0 ∧ s = 0 ∧ g = false ∧ o = 0 ∧ 1 ≤ n ∧ n ≤ 3 := by
      cases g <;> simp at h3 ⊢ <;> omega
    rw [if_pos rfl, rone_cons, show ncode (nm 27) = 27 by decide, rone_27, ccode_cl (by omega) (by omega), Int.toNat_of_nonneg (by omega)]
  rw [if_neg e27]
  by_cases e14 : c = 14
  · subst e14
    obtain ⟨rfl, rfl, rfl, rfl⟩ : d = 0 ∧ s = 0 ∧ g = false ∧ n = 0 := by
      cases g <;> simp at h3 ⊢ <;> omega
    rw [if_pos rfl, rone_cons, show ncode (nm 14) = 14 by decide, rone_14, rnum_num ho]; rfl
  rw [if_neg e14]
  by_cases e13 : c = 13
  · subst e13
    obtain ⟨rfl, rfl, rfl, rfl⟩ : s = 0 ∧ g = false ∧ o = 0 ∧ n = 0 := by
      cases g <;> simp at h3 ⊢ <;> omega
    rw [if_pos rfl, rone_cons, show ncode (nm 13) = 13 by decide, rone_13, rreg_rg (by omega)]; rfl
  rw [if_neg e13]
  by_cases e25 : c = 25
  · subst e25
    obtain ⟨rfl, rfl⟩ : g = false ∧ n = 0 := by
      cases g <;> simp at h3 ⊢ <;> omega
    rw [if_pos rfl, rone_cons, show ncode (nm 25) = 25 by decide, rone_25, rreg_rg (by omega), rplc_plc (by omega) ho]; rfl
  rw [if_neg e25]
  have hsn : (if g = true then s else 0) = s ∧ (if g = true then 0 else n) = n := by
    cases g <;> simp at h3 ⊢ <;> omega
  by_cases e26 : c = 26
  · subst e26
    rw [if_pos rfl, rone_cons, show ncode (nm 26) = 26 by decide, rone_26, rplc_plc (by omega) ho, hsec, hsn.1, hsn.2]; rfl
  rw [if_neg e26]
  by_cases ea : 15 ≤ c ∧ c ≤ 24
  · rw [if_pos ea, rone_cons, hc, rone_ask ea, rnum_num ho, hsec, hsn.1, hsn.2, rreg_rg (by omega)]; rfl
  rw [if_neg ea]
  have ho0 : o = 0 := by cases g <;> simp at h3 ⊢ <;> omega
  subst ho0
  rw [rone_cons, hc, rone_make (by omega), hsec, hsn.1, hsn.2, rreg_rg (by omega)]; rfl
/-! ### the segments are the steps' texts -/
theorem join_cons2 (s x y : List UInt8) (r : List (List UInt8)) : Lib.join (x :: y :: r) s = x ++ s ++ Lib.join (y :: r) s := by
  rw [Lib.join_cons, Lib.join_cons]; simp [Lib.joinTail, List.append_assoc]
theorem join_okw {l : List (List UInt8)} (h : ∀ y ∈ l, ∀ x ∈ y, okw x) : ∀ x ∈ Lib.join l [32], x ≠ 59 := by
  induction l with
  | nil => simp [Lib.join_nil]
  | cons y r ih =>
    cases r with
    | nil => rw [Lib.join_one]; exact fun x hx => (h y (by simp) x hx).2
    | cons z r =>
      rw [join_cons2]
      intro x hx
      simp only [List.mem_append] at hx
      rcases hx with (hx | hx) | hx
      · exact (h y (by simp) x hx).2
      · simp at hx; subst hx; decide
      · exact ih (fun a ha => h a (by simp at ha ⊢; exact .inr ha)) x hx
theorem wds_join {l : List (List UInt8)} (h : ∀ y ∈ l, ∀ x ∈ y, okw x) (hne : ∀ y ∈ l, y ≠ []) : wds (Lib.join l [32]) = l := by
  induction l with
  | nil => rfl
  | cons y r ih =>
    cases r with
    | nil => rw [Lib.join_one, wds_last (hne y (by simp)) fun x hx => (h y (by simp) x hx).1]
    | cons z r =>
      rw [join_cons2, List.append_assoc, List.singleton_append, wds_word (hne y (by simp)) fun x hx => (h y (by simp) x hx).1, ih (fun a ha => h a (by simp at ha ⊢; exact .inr ha)) (fun a ha => hne a (by simp at ha ⊢; exact .inr ha))]
def led : List (List UInt8) → List (List UInt8)
  | [] => []
  | x :: r => x :: r.map (32 :: ·)
theorem cut_join {l : List (List UInt8)} (hl : l ≠ []) (h : ∀ y ∈ l, ∀ x ∈ y, x ≠ 59) : cut1 59 (Lib.join l [59, 32]) = led l := by
  induction l with
  | nil => exact absurd rfl hl
  | cons y r ih =>
    cases r with
    | nil => rw [Lib.join_one, cut1_none 59 y (h y (by simp))]; rfl
    | cons z r =>
      have e : ∀ s : List UInt8, cut1 59 (32 :: s) = glue 32 (cut1 59 s) := fun s => by rw [cut1, if_neg (by decide)]
      rw [join_cons2, List.append_assoc]
      show cut1 59 (y ++ 59 :: (32 :: Lib.join (z :: r) [59, 32])) = _
      rw [cut1_at 59 _ y (h y (by simp)), e, ih (by simp) (fun a ha => h a (by simp at ha ⊢; exact .inr ha))]
      rfl
theorem rgo_map (f : Step → List UInt8) : ∀ (l : List Step) (L : List Step), (∀ t ∈ l, rone (wds (f t)) = some t) → rgo L (l.map f) = .ok (L ++ l)
  | [], L, _ => by simp [rgo]
  | t :: l, L, h => by
    rw [List.map_cons, rgo, h t (by simp)]
    simp only
    rw [rgo_map f l _ (fun u hu => h u (by simp [hu]))]; simp
theorem rgo_led (f : Step → List UInt8) (l : List Step) (h : ∀ t ∈ l, rone (wds (f t)) = some t) : rgo [] (led (l.map f)) = .ok l := by
  cases l with
  | nil => rfl
  | cons t l =>
    rw [List.map_cons, led, rgo, h t (by simp)]
    simp only
    rw [List.map_map, rgo_map ((32 :: ·) ∘ f) l _ ?_]
    · simp
    · intro u hu
      show rone (wds (32 :: f u)) = some u
      rw [wds_blank]; exact h u (by simp [hu])
theorem rone_text {t : Step} (h : t.wrong = 0) (ho : In64 t.off) (hn : In64 t.num) : rone (wds (stepText t)) = some t := by
  unfold stepText; rw [wds_join (okw_words t) (words_ne h)]; exact rone_words h ho hn
/-- with a program of which nothing is wrong nothing is wrong with a step -/
theorem from_zero_at (S : Nat → Step) (n : Nat) : ∀ (k i : Nat), from_ S n i k = (0, -1) → ∀ j, i ≤ j → j < i + k → at_ S n j = 0
  | 0, i, _, j, h1, h2 => by omega
  | k + 1, i, h, j, h1, h2 => by
    unfold from_ at h
    by_cases ha : at_ S n i ≠ 0
    · rw [if_pos ha] at h; exact absurd (congrArg Prod.fst h) ha
    · rw [if_neg ha] at h
      by_cases hj : j = i
      · subst hj; exact Decidable.byContradiction fun hn => ha hn
      · exact from_zero_at S n k (i + 1) h j (by omega) (by omega)
theorem at_wrong {S : Nat → Step} {n i : Nat} (h : at_ S n i = 0) : (S i).wrong = 0 := by
  unfold at_ at h
  by_cases hw : (S i).wrong = 0
  · exact hw
  · rw [if_pos hw] at h; exact h
theorem check_wrong {S : Nat → Step} {n : Nat} (h : check S n = (0, -1)) : (1 ≤ n ∧ n ≤ 200) ∧ ∀ i, i < n → (S i).wrong = 0 := by
  unfold check at h
  by_cases hn : n < 1 ∨ 200 < n
  · rw [if_pos hn] at h; cases h
  · rw [if_neg hn] at h
    exact ⟨by omega, fun i hi => at_wrong (from_zero_at S n n 0 h i (by omega) (by omega))⟩
theorem at_congr {S T : Nat → Step} {n i : Nat} (h : S i = T i) : at_ S n i = at_ T n i := by unfold at_; rw [h]
theorem from_congr {S T : Nat → Step} {n : Nat} (h : ∀ i, i < n → S i = T i) : ∀ (k i : Nat), i + k = n → from_ S n i k = from_ T n i k
  | 0, _, _ => rfl
  | k + 1, i, e => by
    unfold from_
    rw [at_congr (h i (by omega)), from_congr h k (i + 1) (by omega)]
theorem check_congr {S T : Nat → Step} {n : Nat} (h : ∀ i, i < n → S i = T i) : check S n = check T n := by
  unfold check; rw [from_congr h n 0 (by omega)]
def first (S : Nat → Step) (n : Nat) : List Step := (List.range n).map S
theorem first_length (S : Nat → Step) (n : Nat) : (first S n).length = n := by simp [first]
theorem nth_first (S : Nat → Step) (n i : Nat) (h : i < n) : nth (first S n) i = S i := by
  unfold nth first; rw [List.getD_eq_getElem?_getD]; simp [h]
/-- a program's text is that program again -/
theorem rread_text {S : Nat → Step} {n : Nat} (h : check S n = (0, -1)) (hin : ∀ i, i < n → In64 (S i).off ∧ In64 (S i).num) : rread (progText S n) = ((0, -1), first S n) := by
  obtain ⟨hn, hw⟩ := check_wrong h
  have hm : texts S n = (first S n).map stepText := by unfold texts first; rw [List.map_map]; rfl
  have hcut : cut1 59 (progText S n) = led (texts S n) := by
    unfold progText
    refine cut_join ?_ ?_
    · intro e; have := congrArg List.length e; rw [texts_length] at this; simp at this; omega
    · intro y hy
      rw [hm] at hy
      obtain ⟨t, _, rfl⟩ := List.mem_map.1 hy
      unfold stepText
      exact join_okw (okw_words t)
  have hgo : rgo [] (led (texts S n)) = .ok (first S n) := by
    rw [hm]
    refine rgo_led stepText _ ?_
    intro t ht
    unfold first at ht
    obtain ⟨i, hi, rfl⟩ := List.mem_map.1 ht
    have hi' := List.mem_range.1 hi
    exact rone_text (hw i hi') (hin i hi').1 (hin i hi').2
  have hc : check (nth (first S n)) (first S n).length = (0, -1) := by
    rw [first_length, check_congr (T := S) (fun i hi => nth_first S n i hi)]; exact h
  unfold rread
  rw [hcut, hgo]
  simp only
  rw [hc, if_neg (by simp)]
/-! ### a text that is read has numbers of 64 bits -/
def SIn (t : Step) : Prop := In64 t.code ∧ In64 t.dst ∧ In64 t.src ∧ In64 t.off ∧ In64 t.num
theorem rread_cases (s : List UInt8) : (∃ k, rgo [] (cut1 59 s) = .error k ∧ rread s = ((3, (k : Int)), [])) ∨
    (∃ L, rgo [] (cut1 59 s) = .ok L ∧ (((check (nth L) L.length).1 ≠ 0 ∧ rread s = (check (nth L) L.length, [])) ∨ ((check (nth L) L.length).1 = 0 ∧ rread s = ((0, -1), L)))) := by
  unfold rread
  cases rgo [] (cut1 59 s) with
  | error k => exact .inl ⟨k, rfl, rfl⟩
  | ok L =>
    refine .inr ⟨L, rfl, ?_⟩
    by_cases h : (check (nth L) L.length).1 = 0
    · exact .inr ⟨h, by simp only; rw [if_neg (by simp [h])]⟩
    · exact .inl ⟨h, by simp only; rw [if_pos h]⟩
end Go.Proofs.YtglilddlhibogaaGreatDoor.P
