/- A program in a slice of the call's own: its cells, six a step. No conditions. -/
import Derived.Test.YtglilddlhibogaaGreatDoorWalkCheck
import Derived.Test.YtglilddlhibogaaGreatDoorPureRefRead
import Derived.Laws.AppendOwn
namespace Go.Proofs.YtglilddlhibogaaGreatDoor.W
open Go.RowKit Go.Proofs.YtglilddlhibogaaGreatDoor.P
set_option linter.unusedSimpArgs false
set_option linter.unusedVariables false

def c6 (t : Step) : List Value := [.int .i64 t.code, .int .i64 t.dst, .int .i64 t.src, .bool t.reg, .int .i64 t.off, .int .i64 t.num]
theorem c6_len (t : Step) : (c6 t).length = 6 := rfl
def rowOf (L : List Step) : List Value := L.flatMap c6
theorem rowOf_snoc (L : List Step) (t : Step) : rowOf (L ++ [t]) = rowOf L ++ c6 t := by simp [rowOf]
theorem rowOf_cons (t : Step) (L : List Step) : rowOf (t :: L) = c6 t ++ rowOf L := by simp [rowOf]
theorem rowOf_length : ∀ L : List Step, (rowOf L).length = L.length * 6
 | [] => rfl
 | t :: L => by rw [rowOf_cons, List.length_append, rowOf_length L, c6_len]; simp; omega
theorem nth_zero (t : Step) (L : List Step) : nth (t :: L) 0 = t := rfl
theorem nth_succ (t : Step) (L : List Step) (i : Nat) : nth (t :: L) (i + 1) = nth L i := rfl
theorem rowOf_at : ∀ (L : List Step) (i j : Nat), i < L.length → j < 6 → (rowOf L)[i * 6 + j]? = (c6 (nth L i))[j]?
 | [], i, j, hi, _ => by simp at hi
 | t :: L, 0, j, _, hj => by
  rw [rowOf_cons, nth_zero, Nat.zero_mul, Nat.zero_add, List.getElem?_append_left (by rw [c6_len]; exact hj)]
 | t :: L, i + 1, j, hi, hj => by
  rw [rowOf_cons, nth_succ, List.getElem?_append_right (by rw [c6_len]; omega), c6_len, show (i + 1) * 6 + j - 6 = i * 6 + j by omega]
  exact rowOf_at L i j (by simpa using hi) hj
theorem row_at {w : World} {base g n cap : Nat} {e : TypeId} {L : List Step} (hL : L.length = n) (h : w.ownsRow base e 6 (.slice (some ⟨g, 0, none⟩) n cap) n (rowOf L)) {i j : Nat} {v : Value} (hi : i < n) (hj : j < 6) (hv : (c6 (nth L i))[j]? = some v) :
  w.cell? ⟨g, i * 6 + j, none⟩ = some v := by
 have := h.cells (g := g) rfl (i * 6 + j) v (by rw [rowOf_at L i j (by omega) hj]; exact hv)
 have hadd : ∀ k, (⟨g, 0, none⟩ : Addr).add k = ⟨g, k, none⟩ := fun k => by unfold Addr.add; split <;> simp_all
 rwa [hadd] at this
theorem row_cells {w : World} {base g n cap : Nat} {e : TypeId} {L : List Step} (hL : L.length = n) (h : w.ownsRow base e 6 (.slice (some ⟨g, 0, none⟩) n cap) n (rowOf L)) : Cells w ⟨g, 0, none⟩ (nth L) n := by
 intro i hi
 have hadd : (⟨g, 0, none⟩ : Addr).add (i * 6) = ⟨g, i * 6, none⟩ := by unfold Addr.add; split <;> simp_all
 rw [hadd]
 exact ⟨row_at hL h hi (j := 0) (by omega) rfl, row_at hL h hi (j := 1) (by omega) rfl, row_at hL h hi (j := 2) (by omega) rfl, row_at hL h hi (j := 3) (by omega) rfl, row_at hL h hi (j := 4) (by omega) rfl, row_at hL h hi (j := 5) (by omega) rfl⟩
/-! the steps read so far, one segment more -/
theorem rgo_snoc (x : List UInt8) : ∀ (pre : List (List UInt8)) (L : List Step), rgo L (pre ++ [x]) = match rgo L pre with | .error k => .error k | .ok M => (match rone (wds x) with | none => .error M.length | some t => .ok (M ++ [t]))
 | [], L => by
  rw [List.nil_append, rgo, rgo]
  cases rone (wds x) <;> rfl
 | y :: pre, L => by
  rw [List.cons_append, rgo, rgo]
  cases rone (wds y) with
  | none => rfl
  | some t => exact rgo_snoc x pre (L ++ [t])
theorem rgo_ok {x : List UInt8} {pre : List (List UInt8)} {M : List Step} {t : Step} (h : rgo [] pre = .ok M) (ht : rone (wds x) = some t) : rgo [] (pre ++ [x]) = .ok (M ++ [t]) := by rw [rgo_snoc, h]; simp only; rw [ht]
theorem rgo_bad {x : List UInt8} {pre : List (List UInt8)} {M : List Step} (h : rgo [] pre = .ok M) (ht : rone (wds x) = none) : rgo [] (pre ++ [x]) = .error M.length := by rw [rgo_snoc, h]; simp only; rw [ht]
theorem rgo_err_app {k : Nat} (r : List (List UInt8)) : ∀ (pre : List (List UInt8)) (L : List Step), rgo L pre = .error k → rgo L (pre ++ r) = .error k
 | [], L, h => by rw [rgo] at h; cases h
 | y :: pre, L, h => by
  rw [List.cons_append, rgo]
  rw [rgo] at h
  cases hy : rone (wds y) with
  | none => rw [hy] at h; exact h
  | some t => rw [hy] at h; exact rgo_err_app r pre _ h
theorem rgo_err {k : Nat} {pre xs : List (List UInt8)} (h : pre <+: xs) (he : rgo [] pre = .error k) : rgo [] xs = .error k := by
 obtain ⟨r, rfl⟩ := h; exact rgo_err_app r pre [] he
theorem rgo_len : ∀ (pre : List (List UInt8)) (L M : List Step), rgo L pre = .ok M → M.length = L.length + pre.length
 | [], L, M, h => by rw [rgo] at h; injection h with h; subst h; simp
 | y :: pre, L, M, h => by
  rw [rgo] at h
  cases hy : rone (wds y) with
  | none => rw [hy] at h; cases h
  | some t => rw [hy] at h; have := rgo_len pre _ M h; simp at this ⊢; omega
/-- the numbers of a step that is read fit 64 bits -/
theorem rone_in {l : List (List UInt8)} {t : Step} (h : rone l = some t) : SIn t := by
 have z : In64 0 := in64_zero
 have sm : ∀ {n : Int}, 0 ≤ n → n < 100 → In64 n := fun h0 h1 => by unfold In64; omega
 have nn : ∀ {s : List UInt8} {n : Int}, rnum s = some n → In64 n := by
  intro s n hn
  unfold rnum at hn
  rcases hp : Lib.parseIntB 64 s with v | _ | _
  ·rw [hp] at hn; simp only at hn
   by_cases hv : num v = s
   ·rw [if_pos hv] at hn; injection hn with hn; subst hn
    have := Lib.parseIntB_bounds hp
    unfold In64; simp at this; omega
   ·rw [if_neg hv] at hn; cases hn
  ·rw [hp] at hn; cases hn
  ·rw [hp] at hn; cases hn
 have rr : ∀ {s : List UInt8} {n : Int}, rreg s = some n → In64 n := by
  intro s n hn
  have := rreg_some hn
  exact sm this.2.1 (by omega)
 have rs : ∀ {s : List UInt8} {p : Bool × Int × Int}, rsec s = some p → In64 p.2.1 ∧ In64 p.2.2 := by
  intro s p hp
  unfold rsec at hp
  cases hn : rnum s with
  | some n => rw [hn] at hp; injection hp with hp; subst hp; exact ⟨z, nn hn⟩
  | none =>
   cases hr : rreg s with
   | some r => rw [hn, hr] at hp; injection hp with hp; subst hp; exact ⟨rr hr, z⟩
   | none => rw [hn, hr] at hp; cases hp
 have rp : ∀ {s : List UInt8} {p : Int × Int}, rplc s = some p → In64 p.1 ∧ In64 p.2 := by
  intro s p hp
  obtain ⟨h1, m, _, _, h4⟩ := rplc_some (r := p.1) (n := p.2) hp
  exact ⟨sm h1.1 (by omega), nn h4⟩
 have m3 : ∀ {c : Int} {d : Option Int} {p : Option (Bool × Int × Int)} {o : Int} {t : Step}, In64 c → (∀ x, d = some x → In64 x) → (∀ q, p = some q → In64 q.2.1 ∧ In64 q.2.2) → In64 o → mk3 c d p o = some t → SIn t := by
  intro c d p o t hc hd hp ho ht
  cases d with
  | none => cases ht
  | some x =>
   cases p with
   | none => cases ht
   | some q =>
    obtain ⟨g, s, n⟩ := q
    injection ht with ht; subst ht
    exact ⟨hc, hd x rfl, (hp _ rfl).1, ho, (hp _ rfl).2⟩
 have k28 : In64 28 := sm (by decide) (by decide)
 have k27 : In64 27 := sm (by decide) (by decide)
 have k14 : In64 14 := sm (by decide) (by decide)
 have k13 : In64 13 := sm (by decide) (by decide)
 have k25 : In64 25 := sm (by decide) (by decide)
 cases l with
 | nil => cases h
 | cons x r =>
  rw [rone_cons] at h
  have hc := ncode_lt x
  have hcc : In64 (ncode x) := sm hc.1 (by omega)
  generalize ncode x = c at h hc hcc
  unfold roneAt at h
  repeat' split at h
  all_goals first
   | cases h
   | skip
  all_goals (try (injection h with h; subst h))
  ·exact ⟨k28, z, z, z, z⟩
  ·have := ccode_lt ‹_›
   exact ⟨k27, z, z, z, sm (by simp only; omega) (by simp only; omega)⟩
  ·obtain ⟨n, hn, rfl⟩ := Option.map_eq_some_iff.1 h
   exact ⟨k14, z, z, nn hn, z⟩
  ·obtain ⟨n, hn, rfl⟩ := Option.map_eq_some_iff.1 h
   exact ⟨k13, rr hn, z, z, z⟩
  ·obtain ⟨n, hn, h⟩ := Option.bind_eq_some_iff.1 h
   exact m3 hcc (fun x hx => rr hx) (fun q hq => rs hq) (nn hn) h
  ·obtain ⟨n, hn, h⟩ := Option.bind_eq_some_iff.1 h
   obtain ⟨p, hp, rfl⟩ := Option.map_eq_some_iff.1 h
   exact ⟨k25, rr hn, (rp hp).1, (rp hp).2, z⟩
  ·obtain ⟨p, hp, h⟩ := Option.bind_eq_some_iff.1 h
   exact m3 (sm (by decide) (by decide)) (fun x hx => by injection hx with hx; subst hx; exact (rp hp).1) (fun q hq => rs hq) (rp hp).2 h
  ·exact m3 hcc (fun x hx => rr hx) (fun q hq => rs hq) z h
theorem rgo_in : ∀ (pre : List (List UInt8)) (L M : List Step), (∀ t ∈ L, SIn t) → rgo L pre = .ok M → ∀ t ∈ M, SIn t
 | [], L, M, hL, h => by rw [rgo] at h; injection h with h; subst h; exact hL
 | y :: pre, L, M, hL, h => by
  rw [rgo] at h
  cases hy : rone (wds y) with
  | none => rw [hy] at h; cases h
  | some t =>
   rw [hy] at h
   refine rgo_in pre (L ++ [t]) M ?_ h
   intro u hu
   rcases List.mem_append.1 hu with hu | hu
   ·exact hL u hu
   ·simp at hu; subst hu; exact rone_in hy
theorem rread_in {s : List UInt8} : ∀ t ∈ (rread s).2, SIn t := by
 intro t ht
 rcases rread_cases s with ⟨k, _, h⟩ | ⟨L, hL, ⟨_, h⟩ | ⟨_, h⟩⟩
 ·rw [h] at ht; cases ht
 ·rw [h] at ht; cases ht
 ·rw [h] at ht; exact rgo_in _ [] L (by simp) hL t ht
end Go.Proofs.YtglilddlhibogaaGreatDoor.W
