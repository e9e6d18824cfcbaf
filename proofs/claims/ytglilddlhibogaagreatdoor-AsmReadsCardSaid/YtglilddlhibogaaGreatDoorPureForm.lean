/- The reference's way of reading a step, by forms, is asm's: plain. No conditions. -/
import Derived.Test.YtglilddlhibogaaGreatDoorPureRefRead
namespace Go.Proofs.YtglilddlhibogaaGreatDoor.P
set_option linter.unusedSimpArgs false
set_option linter.unusedVariables false

/-- what a code's words are -/
def form (c : Int) : List UInt8 :=
  if 1 ≤ c ∧ c ≤ 12 then [100, 50] else if c = 13 then [100] else if c = 14 then [111] else if 15 ≤ c ∧ c ≤ 24 then [100, 50, 111]
  else if c = 25 then [100, 108] else if c = 26 then [115, 50] else if c = 27 then [99] else []
/-- one word, read into a step -/
def putF (f : UInt8) (x : List UInt8) (s : Step) : Option Step :=
  if f = 100 then (rreg x).map fun r => { s with dst := r }
  else if f = 50 then (match rnum x with | some n => some { s with num := n } | none => (rreg x).map fun r => { s with num := 0, src := r, reg := true })
  else if f = 111 then (rnum x).map fun n => { s with off := n }
  else if f = 108 then (rplc x).map fun p => { s with src := p.1, off := p.2 }
  else if f = 115 then (rplc x).map fun p => { s with dst := p.1, off := p.2 }
  else some { s with num := if 0 < lastc x 4 then lastc x 4 else s.num }
def refForm : List UInt8 → List (List UInt8) → Step → Option Step
  | [], _, s => some s
  | f :: fs, x :: xs, s => (putF f x s).bind (refForm fs xs)
  | _ :: _, [], _ => none
def refOne : List (List UInt8) → Option Step
  | [] => none
  | x :: r => if ncode x = 0 ∨ r.length ≠ (form (ncode x)).length then none else refForm (form (ncode x)) r ⟨ncode x, 0, 0, false, 0, 0⟩
theorem form_make {c : Int} (h : 1 ≤ c ∧ c ≤ 12) : form c = [100, 50] := by unfold form; rw [if_pos h]
theorem form_ask {c : Int} (h : 15 ≤ c ∧ c ≤ 24) : form c = [100, 50, 111] := by unfold form; rw [if_neg (by omega), if_neg (by omega), if_neg (by omega), if_pos h]
theorem two_put (x : List UInt8) (c d o : Int) : putF 50 x ⟨c, d, 0, false, o, 0⟩ = (rsec x).map fun p => ⟨c, d, p.2.1, p.1, o, p.2.2⟩ := by
  unfold putF rsec
  rw [if_neg (by decide), if_pos rfl]
  cases rnum x with
  | some n => rfl
  | none => cases rreg x <;> rfl
theorem refOne_rone (w : List (List UInt8)) : refOne w = rone w := by
  cases w with
  | nil => rfl
  | cons x r =>
    rw [rone_cons]
    unfold refOne
    simp only
    have hc := ncode_lt x
    generalize ncode x = c at hc
    by_cases h0 : c = 0
    · subst h0; rw [if_pos (.inl rfl)]; rfl
    by_cases hm : 1 ≤ c ∧ c ≤ 12
    · rw [form_make hm]
      by_cases hl : r.length = 2
      · obtain ⟨y, z, rfl⟩ : ∃ y z, r = [y, z] := by
          match r, hl with
          | [y, z], _ => exact ⟨y, z, rfl⟩
        rw [if_neg (by simp [h0]), rone_make hm]
        unfold refForm
        rw [show putF 100 y ⟨c, 0, 0, false, 0, 0⟩ = (rreg y).map fun r => ⟨c, r, 0, false, 0, 0⟩ from rfl]
        cases rreg y with
        | none => simp [mk3]
        | some d =>
          simp only [Option.map_some, Option.bind_some]
          unfold refForm
          rw [two_put]
          cases rsec z with
          | none => simp [mk3]
          | some p => obtain ⟨g, s, n⟩ := p; simp [mk3, refForm]
      · rw [if_pos (.inr hl), rone_make_bad hm hl]
    by_cases ha : 15 ≤ c ∧ c ≤ 24
    · rw [form_ask ha]
      by_cases hl : r.length = 3
      · obtain ⟨y, z, u, rfl⟩ : ∃ y z u, r = [y, z, u] := by
          match r, hl with
          | [y, z, u], _ => exact ⟨y, z, u, rfl⟩
        rw [if_neg (by simp [h0]), rone_ask ha]
        unfold refForm
        rw [show putF 100 y ⟨c, 0, 0, false, 0, 0⟩ = (rreg y).map fun r => ⟨c, r, 0, false, 0, 0⟩ from rfl]
        cases rreg y with
        | none => cases rnum u <;> simp [mk3]
        | some d =>
          simp only [Option.map_some, Option.bind_some]
          unfold refForm
          rw [two_put]
          cases rsec z with
          | none => cases rnum u <;> simp [mk3]
          | some p =>
            obtain ⟨g, s, n⟩ := p
            simp only [Option.map_some, Option.bind_some]
            unfold refForm
            rw [show putF 111 u ⟨c, d, s, g, 0, n⟩ = (rnum u).map fun o => ⟨c, d, s, g, o, n⟩ from rfl]
            cases rnum u with
            | none => rfl
            | some o => simp [mk3, refForm]
      · rw [if_pos (.inr hl), rone_ask_bad ha hl]
    have hr : c = 13 ∨ c = 14 ∨ c = 25 ∨ c = 26 ∨ c = 27 ∨ c = 28 := by omega
    rcases hr with rfl | rfl | rfl | rfl | rfl | rfl
    · by_cases hl : r.length = 1
      · obtain ⟨y, rfl⟩ := List.length_eq_one_iff.1 hl
        rw [rone_13]
        show (putF 100 y ⟨13, 0, 0, false, 0, 0⟩).bind _ = _
        rw [show putF 100 y ⟨13, 0, 0, false, 0, 0⟩ = (rreg y).map fun r => ⟨13, r, 0, false, 0, 0⟩ from rfl]
        cases rreg y <;> rfl
      · rw [if_pos (.inr hl), rone_13_bad hl]
    · by_cases hl : r.length = 1
      · obtain ⟨y, rfl⟩ := List.length_eq_one_iff.1 hl
        rw [rone_14]
        show (putF 111 y ⟨14, 0, 0, false, 0, 0⟩).bind _ = _
        rw [show putF 111 y ⟨14, 0, 0, false, 0, 0⟩ = (rnum y).map fun o => ⟨14, 0, 0, false, o, 0⟩ from rfl]
        cases rnum y <;> rfl
      · rw [if_pos (.inr hl), rone_14_bad hl]
    · by_cases hl : r.length = 2
      · obtain ⟨y, z, rfl⟩ : ∃ y z, r = [y, z] := by
          match r, hl with
          | [y, z], _ => exact ⟨y, z, rfl⟩
        rw [rone_25]
        show (putF 100 y ⟨25, 0, 0, false, 0, 0⟩).bind _ = _
        rw [show putF 100 y ⟨25, 0, 0, false, 0, 0⟩ = (rreg y).map fun r => ⟨25, r, 0, false, 0, 0⟩ from rfl]
        cases rreg y with
        | none => rfl
        | some d =>
          show (putF 108 z ⟨25, d, 0, false, 0, 0⟩).bind _ = _
          rw [show putF 108 z ⟨25, d, 0, false, 0, 0⟩ = (rplc z).map fun p => ⟨25, d, p.1, false, p.2, 0⟩ from rfl]
          cases rplc z <;> rfl
      · rw [if_pos (.inr hl), rone_25_bad hl]
    · by_cases hl : r.length = 2
      · obtain ⟨y, z, rfl⟩ : ∃ y z, r = [y, z] := by
          match r, hl with
          | [y, z], _ => exact ⟨y, z, rfl⟩
        rw [rone_26]
        show (putF 115 y ⟨26, 0, 0, false, 0, 0⟩).bind _ = _
        rw [show putF 115 y ⟨26, 0, 0, false, 0, 0⟩ = (rplc y).map fun p => ⟨26, p.1, 0, false, p.2, 0⟩ from rfl]
        cases rplc y with
        | none => rfl
        | some p =>
          show (putF 50 z ⟨26, p.1, 0, false, p.2, 0⟩).bind _ = _
          rw [two_put]
          simp only [Option.bind_some]
          cases rsec z <;> rfl
      · rw [if_pos (.inr hl), rone_26_bad hl]
    · by_cases hl : r.length = 1
      · obtain ⟨y, rfl⟩ := List.length_eq_one_iff.1 hl
        rw [rone_27]
        show some (Step.mk 27 0 0 false 0 (if 0 < lastc y 4 then lastc y 4 else 0)) = _
        rw [lastc_ccode]
        have := ccode_lt y
        by_cases hp : 0 < ccode y
        · rw [if_pos hp]
        · rw [if_neg hp, show ccode y = 0 by omega]
      · rw [if_pos (.inr hl), rone_27_bad hl]
    · rw [rone_28]
      by_cases hl : r = []
      · subst hl; rfl
      · rw [if_neg hl, if_pos (.inr (by simpa [form] using hl))]
end Go.Proofs.YtglilddlhibogaaGreatDoor.P
