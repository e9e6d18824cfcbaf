/- A part of the proof; each theorem states its conditions. -/
import Derived.Test.YtpdlmbbgioenoaaGreatDoorPureBack
import Derived.Lib.ParseIntBTie
set_option linter.unusedSimpArgs false
set_option linter.unusedVariables false
namespace Go.Proofs.YtpdlmbbgioenoaaGreatDoor.P
theorem rgo_words : ∀ (segs : List (List UInt8)) (L M : List Step), segs.map wds = L.map words → (∀ t ∈ L, t.wrong = 0 ∧ In64 t.off ∧ In64 t.num) → rgo M segs = .ok (M ++ L)
  | [], [], M, _, _ => by simp [rgo]
  | [], t :: L, M, h, _ => by simp at h
  | x :: segs, [], M, h, _ => by simp at h
  | x :: segs, t :: L, M, h, hw => by
    rw [List.map_cons, List.map_cons] at h
    injection h with h1 h2
    obtain ⟨a, b, c⟩ := hw t (by simp)
    rw [rgo, h1, rone_words a b c]
    simp only
    rw [rgo_words segs L (M ++ [t]) h2 (fun u hu => hw u (by simp [hu]))]; simp
theorem rread_by {s : List UInt8} {L : List Step} (h : (cut1 59 s).map wds = L.map words) (hw : ∀ t ∈ L, t.wrong = 0 ∧ In64 t.off ∧ In64 t.num) (hc : check (nth L) L.length = (0, -1)) : rread s = ((0, -1), L) := by
  unfold rread
  rw [rgo_words _ L [] h hw]
  simp only [List.nil_append]
  rw [hc, if_neg (by simp)]
theorem num_digit {n : Nat} (h : n < 10) : num (n : Int) = [UInt8.ofNat (48 + n)] := by
  unfold num Lib.itoa; rw [if_neg (by omega), Int.toNat_natCast, Lib.decDigits, dif_pos h]
theorem num_0 : num 0 = [48] := num_digit (n := 0) (by decide)
theorem num_1 : num 1 = [49] := num_digit (n := 1) (by decide)
theorem num_2 : num 2 = [50] := num_digit (n := 2) (by decide)
theorem num_3 : num 3 = [51] := num_digit (n := 3) (by decide)
theorem num_8 : num 8 = [56] := num_digit (n := 8) (by decide)
theorem in_small {n : Int} (h0 : -100 ≤ n) (h : n < 100) : In64 n := by unfold In64; omega
end Go.Proofs.YtpdlmbbgioenoaaGreatDoor.P
