/- The walk of the law's sameOut: two rows that hold the same numbers are the same. No conditions beyond that. -/
import Derived.Test.YtfpoicdfkjbknaaDoorT6
import Derived.BigQuiet
import Derived.Deep.QuietTactic
namespace Go.Proofs.YtfpoicdfkjbknaaDoor.W
open Go.RowKit Go.Proofs.YtfpoicdfkjbknaaDoor.P
set_option linter.unusedSimpArgs false
set_option linter.unusedVariables false

/-- a slice that holds these numbers -/
def RowOf (w : World) (v : Value) (l : List Int) : Prop := ∃ B, w.ownsRow B 2 1 v l.length (l.map (Value.int .i64))
theorem RowOf.read {w : World} {v : Value} {l : List Int} (h : RowOf w v l) : ∃ og cap, v = .slice og l.length cap ∧ (0 < l.length → l.length ≤ cap ∧ ∃ g, og = some ⟨g, 0, none⟩ ∧ ∀ i x, l[i]? = some x → w.cell? ⟨g, i, none⟩ = some (.int .i64 x)) := by
  obtain ⟨B, h⟩ := h
  have hc := fun (g : Nat) (hg : v.ownBlock = some g) => h.cells (g := g) hg
  rcases h.2 with ⟨h1, h2⟩ | ⟨g, cap, cur, h1, h2, h3, h4, -⟩
  · exact ⟨none, 0, by rw [h1, h2], fun h => by omega⟩
  · refine ⟨_, _, h1, fun _ => ⟨h4, g, rfl, fun i x hx => ?_⟩⟩
    have := hc g (by rw [h1]; rfl) i (.int .i64 x) (by simp [hx])
    rwa [show (⟨g, 0, none⟩ : Addr).add i = ⟨g, i, none⟩ by unfold Addr.add; split <;> simp_all] at this
theorem RowOf.len {w : World} {v : Value} {l : List Int} (h : RowOf w v l) : l.length ≤ 9223372036854775807 := by
  obtain ⟨B, h⟩ := h
  rcases h.2 with ⟨h1, h2⟩ | ⟨g, cap, cur, h1, h2, h3, h4, h5, -⟩
  · omega
  · unfold maxLen at h5; omega
theorem RowOf.later {w w' : World} {v : Value} {l : List Int} (h : RowOf w v l) (hb : Below w.heap.size w w') : RowOf w' v l := by
  obtain ⟨B, h⟩ := h
  exact ⟨B, h.kept (But.of (b := w.heap.size) hb).grown (by have := h.lt; cases hv : v.ownBlock with | none => exact .inl rfl | some q => (right; intro e; have := (this q hv).2; injection e; omega))⟩

set_option maxRecDepth 100000 in
set_option maxHeartbeats 1000000 in
theorem SameOut_any (l : List Int) (a b : Value) (w : World) (ha : RowOf w a l) (hb : RowOf w b l) :
    Calls Tryd.prog 9 #[a, b] w fun e w' => e = .returned (.bool true) ∧ Below w.heap.size w w' := by
  have hl := ha.len
  obtain ⟨oa, ca, rfl, ha2⟩ := ha.read
  obtain ⟨ob, cb, rfl, hb2⟩ := hb.read
  have HA := Lib.hid ha2
  have HB := Lib.hid hb2
  clear ha hb ha2 hb2
  generalize hn : l.length = n at *
  have HN := Lib.hid hn
  clear hn
  go_enter Tryd.func9, Tryd.ntmps9
  go_wp2_with fail
  go_loopw [5] (fun i wr => ∃ k : Nat, k ≤ n ∧ i = .int .i64 k ∧ Below w.heap.size w wr) (fun i _ => n - (intOf i).toNat)
  case atStart => exact ⟨0, by omega, rfl, Below.refl _ _⟩
  case round =>
    obtain ⟨k, hk, rfl, hB⟩ := hrel
    by_cases h : k < n
    · obtain ⟨hca, ga, rfl, hca2⟩ := HA.out (by omega)
      obtain ⟨hcb, gb, rfl, hcb2⟩ := HB.out (by omega)
      obtain ⟨x, hx⟩ : ∃ x, l[k]? = some x := ⟨l[k]'(by rw [HN.out]; exact h), List.getElem?_eq_getElem _⟩
      have i1 : (k : Int) < n := by omega
      have c1 := hca2 k x hx
      have c2 := hcb2 k x hx
      have d1 : wr.cell? ⟨ga, k, none⟩ = some (.int .i64 x) := (hB.cell (p := ⟨ga, k, none⟩) (block_lt_of_cell c1)).trans c1
      have d2 : wr.cell? ⟨gb, k, none⟩ = some (.int .i64 x) := (hB.cell (p := ⟨gb, k, none⟩) (block_lt_of_cell c2)).trans c2
      have HBr := Lib.hid hB
      clear c1 c2 hca2 hcb2 hB hx
      go_wp2_with fail
      go_region
      all_goals go_wp2_with fail
      all_goals
        go_roundw
        case rel => exact ⟨k + 1, by omega, by go_num, HBr.out.drew⟩
        case measure => simp [intOf]; omega
    · obtain rfl : k = n := by omega
      have HBr := Lib.hid hB
      clear hB
      go_wp2_with fail
      go_ret
      exact ⟨rfl, HBr.out⟩
end Go.Proofs.YtfpoicdfkjbknaaDoor.W
