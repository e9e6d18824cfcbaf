/- The texts that the laws' facts read, and the programs that they are: plain. No conditions. -/
import Derived.Test.YtpdlmbbgioenoaaGreatDoorPureRefRead
namespace Go.Proofs.YtpdlmbbgioenoaaGreatDoor.P
set_option linter.unusedSimpArgs false
set_option linter.unusedVariables false

theorem rgo_words : ∀ (segs : List (List UInt8)) (L M : List Step), segs.map wds = L.map words → (∀ t ∈ L, t.wrong = 0 ∧ In64 t.off ∧ In64 t.num) → rgo M segs = .ok (M ++ L)
  | [], [], M, _, _ => by simp [rgo]
  | [], t :: L, M, h, _ => by simp at h
  | x :: segs, [], M, h, _ => by simp at h
  | x :: segs, t :: L, M, h, hw => by
    rw [List.map_cons, List.map_cons] at h
    injection h with h1 h2
    obtain ⟨a, b, c⟩ := hw t (by simp)
    rw [rgo, h1, rone_words a b c]
    simp only
    rw [rgo_words segs L (M ++ [t]) h2 (fun u hu => hw u (by simp [hu]))]; simp
theorem rread_by {s : List UInt8} {L : List Step} (h : (cut1 59 s).map wds = L.map words) (hw : ∀ t ∈ L, t.wrong = 0 ∧ In64 t.off ∧ In64 t.num) (hc : check (nth L) L.length = (0, -1)) : rread s = ((0, -1), L) := by
  unfold rread
  rw [rgo_words _ L [] h hw]
  simp only [List.nil_append]
  rw [hc, if_neg (by simp)]
/-! numbers of one digit, as text -/
theorem num_digit {n : Nat} (h : n < 10) : num (n : Int) = [UInt8.ofNat (48 + n)] := by
  unfold num Lib.itoa; rw [if_neg (by omega), Int.toNat_natCast, Lib.decDigits, dif_pos h]
theorem num_0 : num 0 = [48] := num_digit (n := 0) (by decide)
theorem num_1 : num 1 = [49] := num_digit (n := 1) (by decide)
theorem num_2 : num 2 = [50] := num_digit (n := 2) (by decide)
theorem num_3 : num 3 = [51] := num_digit (n := 3) (by decide)
theorem num_7 : num 7 = [55] := num_digit (n := 7) (by decide)
theorem num_8 : num 8 = [56] := num_digit (n := 8) (by decide)
theorem num_m3 : num (-3) = [45, 51] := by
  unfold num Lib.itoa; rw [if_pos (by decide)]
  show 45 :: Lib.decDigits 3 = _
  rw [Lib.decDigits, dif_pos (by decide)]; rfl
/-- 'written': its text, its program, the text that is written -/
def tWritten : List UInt8 := [108, 111, 97, 100, 32, 114, 48, 32, 91, 114, 49, 43, 50, 93, 59, 32, 106, 101, 113, 32, 114, 48, 32, 55, 32, 49, 59, 32, 32, 109, 111, 118, 32, 114, 48, 32, 45, 51, 59, 32, 101, 120, 105, 116]
def pWritten : List Step := [⟨25, 0, 1, false, 2, 0⟩, ⟨15, 0, 0, false, 1, 7⟩, ⟨1, 0, 0, false, 0, -3⟩, ⟨28, 0, 0, false, 0, 0⟩]
theorem words_written : pWritten.map words = [[nm 25, [114, 48], [91, 114, 49, 43, 50, 93]], [nm 15, [114, 48], [55], [49]], [nm 1, [114, 48], [45, 51]], [nm 28]] := by
  simp only [pWritten, List.map_cons, List.map_nil, wd_load, wd_ask (c := 15) ⟨by decide, by decide⟩, wd_make (c := 1) (by decide), wd_exit, plc, rg, sec, num_0, num_1, num_2, num_7, num_m3]
  rfl
theorem in_small {n : Int} (h0 : -100 ≤ n) (h : n < 100) : In64 n := by unfold In64; omega
theorem ok_written : ∀ t ∈ pWritten, t.wrong = 0 ∧ In64 t.off ∧ In64 t.num := by
  intro t ht
  simp only [pWritten, List.mem_cons, List.not_mem_nil, or_false] at ht
  rcases ht with rfl | rfl | rfl | rfl
  all_goals exact ⟨by decide, in_small (by decide) (by decide), in_small (by decide) (by decide)⟩
theorem rread_written : rread tWritten = ((0, -1), pWritten) := rread_by (by rw [words_written]; decide) ok_written (by decide)
def tWritten2 : List UInt8 := [108, 111, 97, 100, 32, 114, 48, 32, 91, 114, 49, 43, 50, 93, 59, 32, 106, 101, 113, 32, 114, 48, 32, 55, 32, 49, 59, 32, 109, 111, 118, 32, 114, 48, 32, 45, 51, 59, 32, 101, 120, 105, 116]
theorem text_words (L : List Step) : (L.map stepText) = (L.map words).map fun l => Lib.join l [32] := by rw [List.map_map]; rfl
theorem text_first (L : List Step) : progText (nth L) L.length = Lib.join ((L.map words).map fun l => Lib.join l [32]) [59, 32] := by
  unfold progText
  rw [← text_words]
  congr 1
  unfold texts
  apply List.ext_getElem
  · simp
  · intro i h1 h2
    simp at h1 h2
    simp [nth, h2]
theorem text_written : progText (nth pWritten) 4 = tWritten2 := by
  have h := text_first pWritten
  rw [words_written] at h
  exact h
end Go.Proofs.YtpdlmbbgioenoaaGreatDoor.P
