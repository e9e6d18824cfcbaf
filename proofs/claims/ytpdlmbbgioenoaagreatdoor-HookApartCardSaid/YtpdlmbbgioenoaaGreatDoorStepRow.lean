/- A part of the proof; each theorem states its conditions. -/
import Derived.Test.YtpdlmbbgioenoaaGreatDoorWalkCheck
import Derived.Test.YtpdlmbbgioenoaaGreatDoorPureBack
import Derived.Lib.ParseIntBTie
import Derived.Laws.AppendOwn
set_option linter.unusedSimpArgs false
set_option linter.unusedVariables false
namespace Go.Proofs.YtpdlmbbgioenoaaGreatDoor.W
open Go.RowKit Go.Proofs.YtpdlmbbgioenoaaGreatDoor.P
def c6 (t : Step) : List Value := [.int .i64 t.code, .int .i64 t.dst, .int .i64 t.src, .bool t.reg, .int .i64 t.off, .int .i64 t.num]
theorem c6_len (t : Step) : (c6 t).length = 6 := rfl
def rowOf (L : List Step) : List Value := L.flatMap c6
theorem rowOf_snoc (L : List Step) (t : Step) : rowOf (L ++ [t]) = rowOf L ++ c6 t := by simp [rowOf]
theorem rowOf_cons (t : Step) (L : List Step) : rowOf (t :: L) = c6 t ++ rowOf L := by simp [rowOf]
theorem rowOf_length : ∀ L : List Step, (rowOf L).length = L.length * 6
 | [] => rfl
 | t :: L => by rw [rowOf_cons, List.length_append, rowOf_length L, c6_len]; simp; omega
theorem nth_zero (t : Step) (L : List Step) : nth (t :: L) 0 = t := rfl
theorem nth_succ (t : Step) (L : List Step) (i : Nat) : nth (t :: L) (i + 1) = nth L i := rfl
theorem rowOf_at : ∀ (L : List Step) (i j : Nat), i < L.length → j < 6 → (rowOf L)[i * 6 + j]? = (c6 (nth L i))[j]?
 | [], i, j, hi, _ => by simp at hi
 | t :: L, 0, j, _, hj => by
  rw [rowOf_cons, nth_zero, Nat.zero_mul, Nat.zero_add, List.getElem?_append_left (by rw [c6_len]; exact hj)]
 | t :: L, i + 1, j, hi, hj => by
  rw [rowOf_cons, nth_succ, List.getElem?_append_right (by rw [c6_len]; omega), c6_len, show (i + 1) * 6 + j - 6 = i * 6 + j by omega]
  exact rowOf_at L i j (by simpa using hi) hj
theorem row_at {w : World} {base g n cap : Nat} {e : TypeId} {L : List Step} (hL : L.length = n) (h : w.ownsRow base e 6 (.slice (some ⟨g, 0, none⟩) n cap) n (rowOf L)) {i j : Nat} {v : Value} (hi : i < n) (hj : j < 6) (hv : (c6 (nth L i))[j]? = some v) :
  w.cell? ⟨g, i * 6 + j, none⟩ = some v := by
 have := h.cells (g := g) rfl (i * 6 + j) v (by rw [rowOf_at L i j (by omega) hj]; exact hv)
 have hadd : ∀ k, (⟨g, 0, none⟩ : Addr).add k = ⟨g, k, none⟩ := fun k => by unfold Addr.add; split <;> simp_all
 rwa [hadd] at this
theorem row_cells {w : World} {base g n cap : Nat} {e : TypeId} {L : List Step} (hL : L.length = n) (h : w.ownsRow base e 6 (.slice (some ⟨g, 0, none⟩) n cap) n (rowOf L)) : Cells w ⟨g, 0, none⟩ (nth L) n := by
 intro i hi
 have hadd : (⟨g, 0, none⟩ : Addr).add (i * 6) = ⟨g, i * 6, none⟩ := by unfold Addr.add; split <;> simp_all
 rw [hadd]
 exact ⟨row_at hL h hi (j := 0) (by omega) rfl, row_at hL h hi (j := 1) (by omega) rfl, row_at hL h hi (j := 2) (by omega) rfl, row_at hL h hi (j := 3) (by omega) rfl, row_at hL h hi (j := 4) (by omega) rfl, row_at hL h hi (j := 5) (by omega) rfl⟩
theorem rgo_snoc (x : List UInt8) : ∀ (pre : List (List UInt8)) (L : List Step), rgo L (pre ++ [x]) = match rgo L pre with | .error k => .error k | .ok M => (match rone (wds x) with | none => .error M.length | some t => .ok (M ++ [t]))
 | [], L => by
  rw [List.nil_append, rgo, rgo]
  cases rone (wds x) <;> rfl
 | y :: pre, L => by
  rw [List.cons_append, rgo, rgo]
  cases rone (wds y) with
  | none => rfl
  | some t => exact rgo_snoc x pre (L ++ [t])
theorem rgo_ok {x : List UInt8} {pre : List (List UInt8)} {M : List Step} {t : Step} (h : rgo [] pre = .ok M) (ht : rone (wds x) = some t) : rgo [] (pre ++ [x]) = .ok (M ++ [t]) := by rw [rgo_snoc, h]; simp only; rw [ht]
theorem rgo_bad {x : List UInt8} {pre : List (List UInt8)} {M : List Step} (h : rgo [] pre = .ok M) (ht : rone (wds x) = none) : rgo [] (pre ++ [x]) = .error M.length := by rw [rgo_snoc, h]; simp only; rw [ht]
theorem rgo_err_app {k : Nat} (r : List (List UInt8)) : ∀ (pre : List (List UInt8)) (L : List Step), rgo L pre = .error k → rgo L (pre ++ r) = .error k
 | [], L, h => by rw [rgo] at h; cases h
 | y :: pre, L, h => by
  rw [List.cons_append, rgo]
  rw [rgo] at h
  cases hy : rone (wds y) with
  | none => rw [hy] at h; exact h
  | some t => rw [hy] at h; exact rgo_err_app r pre _ h
theorem rgo_err {k : Nat} {pre xs : List (List UInt8)} (h : pre <+: xs) (he : rgo [] pre = .error k) : rgo [] xs = .error k := by
 obtain ⟨r, rfl⟩ := h; exact rgo_err_app r pre [] he
theorem rgo_len : ∀ (pre : List (List UInt8)) (L M : List Step), rgo L pre = .ok M → M.length = L.length + pre.length
 | [], L, M, h => by rw [rgo] at h; injection h with h; subst h; simp
 | y :: pre, L, M, h => by
  rw [rgo] at h
  cases hy : rone (wds y) with
  | none => rw [hy] at h; cases h
  | some t => rw [hy] at h; have := rgo_len pre _ M h; simp at this ⊢; omega
end Go.Proofs.YtpdlmbbgioenoaaGreatDoor.W
