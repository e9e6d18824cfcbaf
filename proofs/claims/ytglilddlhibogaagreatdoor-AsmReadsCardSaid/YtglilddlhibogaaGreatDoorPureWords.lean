/- Texts cut into segments and words, and the program that a text is: plain functions on bytes. No conditions. -/
import Derived.Test.YtglilddlhibogaaGreatDoorPureRead
import Derived.Lib.SplitLaws
import Derived.Lib.FieldsP
import Derived.Lib.MapLaws
namespace Go.Proofs.YtglilddlhibogaaGreatDoor.P
set_option linter.unusedSimpArgs false
set_option linter.unusedVariables false

def glue (x : UInt8) : List (List UInt8) → List (List UInt8)
  | [] => [[x]]
  | h :: t => (x :: h) :: t
/-- a text, cut at a byte -/
def cut1 (c : UInt8) : List UInt8 → List (List UInt8)
  | [] => [[]]
  | x :: s => if x = c then [] :: cut1 c s else glue x (cut1 c s)
theorem cut1_none (c : UInt8) : ∀ (s : List UInt8), (∀ x ∈ s, x ≠ c) → cut1 c s = [s]
  | [], _ => rfl
  | x :: s, h => by
    unfold cut1
    rw [if_neg (h x (by simp)), cut1_none c s (fun y hy => h y (by simp [hy]))]; rfl
theorem cut1_at (c : UInt8) (r : List UInt8) : ∀ (u : List UInt8), (∀ x ∈ u, x ≠ c) → cut1 c (u ++ c :: r) = u :: cut1 c r
  | [], _ => by rw [List.nil_append, cut1, if_pos rfl]
  | x :: u, h => by
    rw [List.cons_append, cut1, if_neg (h x (by simp)), cut1_at c r u (fun y hy => h y (by simp [hy]))]; rfl
theorem cut1_length (c : UInt8) : ∀ (s : List UInt8), (cut1 c s).length = s.count c + 1
  | [] => rfl
  | x :: s => by
    unfold cut1
    have ih := cut1_length c s
    by_cases h : x = c
    · subst h; rw [if_pos rfl]; simp [ih]
    · rw [if_neg h, List.count_cons_of_ne h]
      cases hc : cut1 c s with
      | nil => rw [hc] at ih; simp at ih
      | cons a t => rw [hc] at ih; simpa [glue] using ih
theorem cut1_part (c : UInt8) : ∀ (s : List UInt8), ∀ y ∈ cut1 c s, y.length ≤ s.length
  | [] => by simp [cut1]
  | x :: s => by
    have ih := cut1_part c s
    unfold cut1
    split
    · intro y hy
      rcases List.mem_cons.1 hy with rfl | hy
      · simp
      · have := ih y hy; simp; omega
    · intro y hy
      cases hc : cut1 c s with
      | nil => rw [hc] at hy; simp [glue] at hy; subst hy; simp
      | cons a t =>
        rw [hc] at hy ih
        rcases List.mem_cons.1 hy with rfl | hy
        · have := ih a (by simp); simp; omega
        · have := ih y (by simp [hy]); simp; omega
theorem occ_one {s : List UInt8} {c : UInt8} {j : Nat} (h : s[j]? = some c) : Lib.occAt s [c] j = true := by
  have hj : j < s.length := (List.getElem?_eq_some_iff.1 h).1
  rw [Lib.occAt_iff_take s [c] j (by simp; omega)]
  have e : s.drop j = c :: s.drop (j + 1) := by
    rw [List.drop_eq_getElem_cons hj]; rw [List.getElem?_eq_getElem hj] at h; injection h with h; rw [h]
  rw [e]; simp
theorem index1_none {s : List UInt8} {c : UInt8} (h : Lib.index s [c] = -1) : ∀ x ∈ s, x ≠ c := by
  rintro x hx rfl
  obtain ⟨j, hj, he⟩ := List.mem_iff_getElem.1 hx
  have ho := occ_one (s := s) (c := x) (j := j) (by rw [List.getElem?_eq_getElem hj, he])
  rcases Lib.index_spec s [x] with ⟨_, h2⟩ | ⟨i, hi, _⟩
  · rw [h2 j (by omega)] at ho; cases ho
  · rw [h] at hi; omega
theorem index1_hit {s : List UInt8} {c : UInt8} {i : Nat} (h : Lib.index s [c] = i) : i < s.length ∧ s = s.take i ++ c :: s.drop (i + 1) ∧ ∀ x ∈ s.take i, x ≠ c := by
  rcases Lib.index_spec s [c] with ⟨h1, _⟩ | ⟨k, hk, _, ho, hno⟩
  · rw [h] at h1; omega
  · obtain rfl : k = i := by rw [h] at hk; omega
    have hc := Lib.occAt_head (c := c) (t := []) rfl ho
    have hl : k < s.length := (List.getElem?_eq_some_iff.1 hc).1
    refine ⟨hl, ?_, ?_⟩
    · rw [List.getElem?_eq_getElem hl] at hc; injection hc with hc
      conv => lhs; rw [← List.take_append_drop k s, List.drop_eq_getElem_cons hl, hc]
    · rintro x hx rfl
      obtain ⟨j, hj, he⟩ := List.mem_iff_getElem.1 hx
      simp at hj he
      have := occ_one (s := s) (c := x) (j := j) (by rw [List.getElem?_eq_getElem (by omega), he])
      rw [hno j (by omega)] at this; cases this
theorem index_byte (c : UInt8) : ∀ (s : List UInt8), Lib.index s [c] = Lib.indexByte s c
  | [] => rfl
  | b :: s => by
    unfold Lib.index Lib.indexByte
    rw [index_byte c s]
    by_cases h : b = c
    · subst h; simp
    · have h1 : ([c].isPrefixOf (b :: s)) = false := by simp [List.isPrefixOf, Ne.symm h]
      simp [h, h1]
theorem cut1_hit {s : List UInt8} {c : UInt8} {i : Nat} (h : Lib.index s [c] = i) : cut1 c s = s.take i :: cut1 c (s.drop (i + 1)) := by
  obtain ⟨_, h2, h3⟩ := index1_hit h
  conv => lhs; rw [h2]
  exact cut1_at c _ _ h3
theorem split_cut1 (c : UInt8) : ∀ (k : Nat) (s : List UInt8), s.count c = k → Lib.splitK [c] 0 k s = cut1 c s
  | 0, s, h => by
    rw [Lib.splitK, cut1_none]
    rintro x hx rfl
    exact absurd hx (List.count_eq_zero.1 h)
  | k + 1, s, h => by
    rw [Lib.splitK]
    have hx : c ∈ s := List.count_pos_iff.1 (by omega)
    rcases Lib.index_spec s [c] with ⟨h1, _⟩ | ⟨i, hi, _⟩
    · exact absurd rfl (index1_none h1 c hx)
    · obtain ⟨h1, h2, h3⟩ := index1_hit hi
      rw [hi, if_neg (by simp <;> omega)]
      simp only [Int.toNat_natCast, Nat.add_zero, List.length_cons, List.length_nil, Nat.zero_add]
      have hc : (s.drop (i + 1)).count c = k := by
        rw [h2, List.count_append, List.count_cons_self, List.count_eq_zero.2 (fun hm => h3 c hm rfl)] at h
        omega
      rw [split_cut1 c k _ hc, cut1_hit hi]
theorem split_eq (s : List UInt8) (c : UInt8) : Lib.split s [c] = cut1 c s := by
  unfold Lib.split; rw [Lib.count_one]; exact split_cut1 c _ s rfl

/-- the words between blanks -/
def wds (s : List UInt8) : List (List UInt8) := (cut1 32 s).filter fun x => !x.isEmpty
theorem wds_nil : wds [] = [] := rfl
theorem wds_blank (r : List UInt8) : wds (32 :: r) = wds r := by
  have := cut1_at 32 r [] (by simp)
  unfold wds; rw [List.nil_append] at this; rw [this]; simp
theorem wds_word {u : List UInt8} (hu : u ≠ []) (h : ∀ x ∈ u, x ≠ 32) (r : List UInt8) : wds (u ++ 32 :: r) = u :: wds r := by
  unfold wds; rw [cut1_at 32 r u h, List.filter_cons, if_pos (by cases u; simp at hu; simp)]
theorem wds_last {u : List UInt8} (hu : u ≠ []) (h : ∀ x ∈ u, x ≠ 32) : wds u = [u] := by
  unfold wds; rw [cut1_none 32 u h, List.filter_cons, if_pos (by cases u; simp at hu; simp)]; rfl
theorem wds_length (s : List UInt8) : (wds s).length ≤ s.length + 1 := by
  unfold wds
  have h1 := List.length_filter_le (fun x : List UInt8 => !x.isEmpty) (cut1 32 s)
  have h2 := cut1_length 32 s
  have h3 := List.count_le_length (a := (32 : UInt8)) (l := s)
  omega
theorem wds_part {s : List UInt8} {y : List UInt8} (h : y ∈ wds s) : y.length ≤ s.length := cut1_part 32 s y (List.mem_filter.1 h).1

/-! the library's cut at blanks, rune by rune, is the cut at the byte 32 -/
theorem mem_mid {l : List UInt8} {a b : Nat} {x : UInt8} (h : x ∈ (l.take b).drop a) : ∃ i, a + i < b ∧ l[a + i]? = some x := by
  obtain ⟨i, hi, he⟩ := List.mem_iff_getElem.1 h
  simp at hi he
  exact ⟨i, by omega, by rw [List.getElem?_eq_getElem (by omega), he]⟩
theorem dec_step (l : List UInt8) (pos : Nat) (hp : pos < l.length) :
    (Utf8.decode (bs l) pos = (32, 1) ∧ l[pos]? = some 32) ∨
    ((Utf8.decode (bs l) pos).1 ≠ 32 ∧ 1 ≤ (Utf8.decode (bs l) pos).2 ∧ pos + (Utf8.decode (bs l) pos).2 ≤ l.length ∧ ∀ x ∈ (l.take (pos + (Utf8.decode (bs l) pos).2)).drop pos, x ≠ 32) := by
  rw [Lib.decode_N, bs_data]
  have g : ∀ i, pos + i < l.length → ∀ x, l[pos + i]? = some x → (l.getD (pos + i) 0).toNat = x.toNat := by
    intro i hi x hx; rw [List.getD_eq_getElem?_getD, hx]; rfl
  have g0 := g 0 (by omega)
  have n32 : ∀ x : UInt8, x.toNat ≠ 32 → x ≠ 32 := by rintro x hx rfl; exact hx rfl
  have hb0 : (l.getD pos 0).toNat < 256 := UInt8.toNat_lt _
  rcases Lib.decodeN_shape (l.length - pos) (l.getD pos 0).toNat (l.getD (pos + 1) 0).toNat (l.getD (pos + 2) 0).toNat (l.getD (pos + 3) 0).toNat with ⟨h0, e⟩ | ⟨h0, h1, h2, h3, e⟩ | ⟨h0, h1, h2, h3, h4, h5, e⟩ | ⟨h0, h1, h2, h3, h4, h5, h6, e⟩ | e
  · rw [e]
    by_cases h : (l.getD pos 0).toNat = 32
    · left
      refine ⟨by rw [h], ?_⟩
      rw [List.getD_eq_getElem?_getD, List.getElem?_eq_getElem hp] at h
      rw [List.getElem?_eq_getElem hp]
      exact congrArg some (UInt8.toNat_inj.1 h)
    · right
      refine ⟨h, by dsimp only; omega, by dsimp only; omega, ?_⟩
      intro x hx
      obtain ⟨i, hi, he⟩ := mem_mid hx
      simp at hi; subst hi
      have := g0 x he
      exact n32 x (by rw [← this]; exact h)
  · right; rw [e]
    refine ⟨by dsimp only; omega, by dsimp only; omega, by dsimp only; omega, ?_⟩
    intro x hx
    obtain ⟨i, hi, he⟩ := mem_mid hx
    simp at hi
    have hg := g i (by have := (List.getElem?_eq_some_iff.1 he).1; omega) x he
    apply n32
    rcases (by omega : i = 0 ∨ i = 1) with rfl | rfl <;> (try simp only [Nat.add_zero] at hg) <;> omega
  · right; rw [e]
    refine ⟨by dsimp only; omega, by dsimp only; omega, by dsimp only; omega, ?_⟩
    intro x hx
    obtain ⟨i, hi, he⟩ := mem_mid hx
    simp at hi
    have hg := g i (by have := (List.getElem?_eq_some_iff.1 he).1; omega) x he
    apply n32
    rcases (by omega : i = 0 ∨ i = 1 ∨ i = 2) with rfl | rfl | rfl <;> (try simp only [Nat.add_zero] at hg) <;> omega
  · right; rw [e]
    refine ⟨by dsimp only; omega, by dsimp only; omega, by dsimp only; omega, ?_⟩
    intro x hx
    obtain ⟨i, hi, he⟩ := mem_mid hx
    simp at hi
    have hg := g i (by have := (List.getElem?_eq_some_iff.1 he).1; omega) x he
    apply n32
    rcases (by omega : i = 0 ∨ i = 1 ∨ i = 2 ∨ i = 3) with rfl | rfl | rfl | rfl <;> (try simp only [Nat.add_zero] at hg) <;> omega
  · right
    have h128 : 128 ≤ (l.getD pos 0).toNat := by
      apply Decidable.byContradiction
      intro h
      rw [Lib.decodeN_ascii _ _ _ _ _ (by omega)] at e
      injection e with e _
      omega
    rw [e]
    refine ⟨by dsimp only; omega, by dsimp only; omega, by dsimp only; omega, ?_⟩
    intro x hx
    obtain ⟨i, hi, he⟩ := mem_mid hx
    simp at hi; subst hi
    have := g0 x he
    simp only [Nat.add_zero] at this
    exact n32 x (by rw [← this]; omega)
theorem bs_extract (l : List UInt8) (a b : Nat) : (bs l).extract a b = bs ((l.take b).drop a) := by
  apply ByteArray.ext
  simp [bs]
  exact List.drop_take.symm
theorem drop_split (l : List UInt8) {a b : Nat} (h : a ≤ b) : l.drop a = (l.take b).drop a ++ l.drop b := by
  conv => lhs; rw [← List.take_append_drop b l]
  by_cases hb : b ≤ l.length
  · rw [List.drop_append_of_le_length (by simp; omega)]
  · rw [List.take_of_length_le (by omega), List.drop_eq_nil_of_le (by omega : l.length ≤ b)]; simp
theorem spans_words (l : List UInt8) : ∀ (f pos : Nat) (st : Option Nat) (acc : List (Nat × Nat)), pos ≤ l.length → l.length - pos ≤ f → (∀ a, st = some a → a < pos ∧ ∀ x ∈ (l.take pos).drop a, x ≠ 32) →
    (Lib.closeSpans (bs l) (Lib.spansFromP (fun x => x == 32) (bs l) f pos st acc)).map (fun x => (bs l).extract x.1 x.2) = acc.map (fun x => (bs l).extract x.1 x.2) ++ (wds (l.drop (st.getD pos))).map bs := by
  have hsz : (bs l).size = l.length := by simp [bs, ByteArray.size]
  intro f
  induction f with
  | zero =>
    intro pos st acc h1 h2 h3
    obtain rfl : pos = l.length := by omega
    unfold Lib.spansFromP Lib.closeSpans
    cases st with
    | none => simp [wds_nil]
    | some a =>
      obtain ⟨h4, h5⟩ := h3 a rfl
      rw [List.take_length] at h5
      have hne : l.drop a ≠ [] := by intro h; have := congrArg List.length h; simp at this; omega
      simp only [Option.getD_some]
      rw [wds_last hne h5, List.map_append, hsz]
      simp [bs_extract]
  | succ f ih =>
    intro pos st acc h1 h2 h3
    by_cases hp : pos < l.length
    · rw [Lib.spansFromP.eq_def]; dsimp only; rw [if_pos (by omega)]
      rcases dec_step l pos hp with ⟨hd, h32⟩ | ⟨hd, hk1, hk2, hk3⟩
      · rw [hd]
        simp only [beq_self_eq_true, if_true]
        have hdrop : l.drop pos = 32 :: l.drop (pos + 1) := by
          rw [List.drop_eq_getElem_cons hp]; rw [List.getElem?_eq_getElem hp] at h32; injection h32 with h32; rw [h32]
        cases st with
        | none =>
          simp only
          rw [ih (pos + 1) none acc (by omega) (by omega) (by intro a ha; cases ha)]
          simp only [Option.getD_none]
          rw [hdrop, wds_blank]
        | some a =>
          simp only
          obtain ⟨h4, h5⟩ := h3 a rfl
          rw [ih (pos + 1) none _ (by omega) (by omega) (by intro a ha; cases ha)]
          simp only [Option.getD_none, Option.getD_some]
          have hne : (l.take pos).drop a ≠ [] := by intro h; have := congrArg List.length h; simp at this; omega
          rw [drop_split l (Nat.le_of_lt h4), hdrop, wds_word hne h5]
          simp [bs_extract]
      · generalize Utf8.decode (bs l) pos = dk at *
        rw [if_neg (by simpa using hd)]
        cases st with
        | none =>
          simp only
          rw [ih (pos + dk.2) (some pos) acc (by omega) (by omega) (by intro a ha; cases ha; exact ⟨by omega, hk3⟩)]
          rfl
        | some a =>
          simp only
          obtain ⟨h4, h5⟩ := h3 a rfl
          rw [ih (pos + dk.2) (some a) acc (by omega) (by omega) ?_]
          · rfl
          · intro b hb; cases hb
            refine ⟨by omega, ?_⟩
            intro x hx
            have e : (l.take (pos + dk.2)).drop a = (l.take pos).drop a ++ (l.take (pos + dk.2)).drop pos := by
              have := drop_split (l.take (pos + dk.2)) (Nat.le_of_lt h4)
              rwa [List.take_take, Nat.min_eq_left (by omega)] at this
            rw [e] at hx
            rcases List.mem_append.1 hx with hx | hx
            · exact h5 x hx
            · exact hk3 x hx
    · obtain rfl : pos = l.length := by omega
      have := ih l.length st acc (by omega) (by omega) h3
      rw [Lib.spansFromP_end _ _ _ _ _ _ (by omega)] at this ⊢
      exact this
theorem fields_words (l : List UInt8) : Lib.goFieldsP (fun x => x == 32) (bs l) = (wds l).map bs := by
  unfold Lib.goFieldsP Lib.spansOfP
  rw [spans_words l _ 0 none [] (by omega) (by simp [bs, ByteArray.size]) (by intro a ha; cases ha)]
  simp
/-- the steps that segments are, or how many stand ahead of the first that is none -/
def rgo (L : List Step) : List (List UInt8) → Except Nat (List Step)
  | [] => .ok L
  | x :: r => match rone (wds x) with
    | none => .error L.length
    | some t => rgo (L ++ [t]) r
def step0 : Step := ⟨0, 0, 0, false, 0, 0⟩
def nth (L : List Step) (i : Nat) : Step := L.getD i step0
/-- the program that a text is: what is wrong, and where; the steps -/
def rread (s : List UInt8) : (Int × Int) × List Step :=
  match rgo [] (cut1 59 s) with
  | .error k => ((3, (k : Int)), [])
  | .ok L => if (check (nth L) L.length).1 ≠ 0 then (check (nth L) L.length, []) else ((0, -1), L)
end Go.Proofs.YtglilddlhibogaaGreatDoor.P
