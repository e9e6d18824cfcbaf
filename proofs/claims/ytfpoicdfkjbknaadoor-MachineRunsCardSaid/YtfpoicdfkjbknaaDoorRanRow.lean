/- The rows of the two Ran types in the dump: closed facts. No conditions. -/
import Derived.Test.YtfpoicdfkjbknaaDoorMidQuiet
import Derived.Test.YtfpoicdfkjbknaaDoorT6
namespace Go.Proofs.YtfpoicdfkjbknaaDoor.W
open Go.RowKit
set_option linter.unusedSimpArgs false
set_option linter.unusedVariables false
set_option maxRecDepth 100000 in
theorem built_ran (n c0 c1 c2 c3 c4 c5 c6 c7 c8 c9 c10 c11 c12 c13 c14 c15 st : Int) (og : Option Addr) (len cap : Nat) : Tryd.prog.built 35 [(0, .int .i64 n), (1, .agg #[.int .i64 c0, .int .i64 c1, .int .i64 c2, .int .i64 c3, .int .i64 c4, .int .i64 c5, .int .i64 c6, .int .i64 c7, .int .i64 c8, .int .i64 c9, .int .i64 c10, .int .i64 c11, .int .i64 c12, .int .i64 c13, .int .i64 c14, .int .i64 c15]), (2, .slice og len cap), (3, .int .i64 st)] = some #[.int .i64 n, .int .i64 c0, .int .i64 c1, .int .i64 c2, .int .i64 c3, .int .i64 c4, .int .i64 c5, .int .i64 c6, .int .i64 c7, .int .i64 c8, .int .i64 c9, .int .i64 c10, .int .i64 c11, .int .i64 c12, .int .i64 c13, .int .i64 c14, .int .i64 c15, .slice og len cap, .int .i64 st] := by
  kernel_rfl
theorem size_ran : (Tryd.prog.info? 35).map (·.size) = some 19 := by kernel_rfl
theorem size_rran : (Tryd.prog.info? 29).map (·.size) = some 19 := by kernel_rfl
theorem size_table : (Tryd.prog.info? 26).map (·.size) = some 16 := by kernel_rfl
theorem one_ran (n c0 c1 c2 c3 c4 c5 c6 c7 c8 c9 c10 c11 c12 c13 c14 c15 st : Int) (og : Option Addr) (len cap : Nat) : (#[.int .i64 n, .int .i64 c0, .int .i64 c1, .int .i64 c2, .int .i64 c3, .int .i64 c4, .int .i64 c5, .int .i64 c6, .int .i64 c7, .int .i64 c8, .int .i64 c9, .int .i64 c10, .int .i64 c11, .int .i64 c12, .int .i64 c13, .int .i64 c14, .int .i64 c15, .slice og len cap, .int .i64 st] : Array Value).all (·.oneCell') = true := by kernel_rfl
theorem size_rranz : (Tryd.prog.info? 29).map (·.size) = some (Array.size (#[.int .i64 0, .int .i64 0, .int .i64 0, .int .i64 0, .int .i64 0, .int .i64 0, .int .i64 0, .int .i64 0, .int .i64 0, .int .i64 0, .int .i64 0, .int .i64 0, .int .i64 0, .int .i64 0, .int .i64 0, .int .i64 0, .int .i64 0, .slice none 0 0, .int .i64 0] : Array Value)) := by kernel_rfl
theorem size_ranz : (Tryd.prog.info? 35).map (·.size) = some (Array.size (#[.int .i64 0, .int .i64 0, .int .i64 0, .int .i64 0, .int .i64 0, .int .i64 0, .int .i64 0, .int .i64 0, .int .i64 0, .int .i64 0, .int .i64 0, .int .i64 0, .int .i64 0, .int .i64 0, .int .i64 0, .int .i64 0, .int .i64 0, .slice none 0 0, .int .i64 0] : Array Value)) := by kernel_rfl
theorem built_ranz : Tryd.prog.built 35 [] = some #[.int .i64 0, .int .i64 0, .int .i64 0, .int .i64 0, .int .i64 0, .int .i64 0, .int .i64 0, .int .i64 0, .int .i64 0, .int .i64 0, .int .i64 0, .int .i64 0, .int .i64 0, .int .i64 0, .int .i64 0, .int .i64 0, .int .i64 0, .slice none 0 0, .int .i64 0] := by kernel_rfl
theorem built_rranz : Tryd.prog.built 29 [] = some #[.int .i64 0, .int .i64 0, .int .i64 0, .int .i64 0, .int .i64 0, .int .i64 0, .int .i64 0, .int .i64 0, .int .i64 0, .int .i64 0, .int .i64 0, .int .i64 0, .int .i64 0, .int .i64 0, .int .i64 0, .int .i64 0, .int .i64 0, .slice none 0 0, .int .i64 0] := by kernel_rfl
theorem one_ranz : (#[.int .i64 0, .int .i64 0, .int .i64 0, .int .i64 0, .int .i64 0, .int .i64 0, .int .i64 0, .int .i64 0, .int .i64 0, .int .i64 0, .int .i64 0, .int .i64 0, .int .i64 0, .int .i64 0, .int .i64 0, .int .i64 0, .int .i64 0, .slice none 0 0, .int .i64 0] : Array Value).all (·.oneCell') = true := by kernel_rfl
/-- what was stored over a whole row is read whole -/
theorem load_row {w : World} {P : Program} {g ty : Nat} {d : TypeDesc} {cs : Array Value} (ht : w.there g 0 cs.size) (hu : P.underlying ty = some d) (hd : d.isRow = true) (hi : (P.info? ty).map (·.size) = some cs.size) : (loadVar ty ⟨g, 0, none⟩).run P (w.setCells g 0 cs.toList) = .ok (.agg cs) (w.setCells g 0 cs.toList) := by
  have := run_loadVar_mid (P := P) (w.setCells g 0 cs.toList) g 0 ty cs.toList d (World.rangeAt_setCells_same w g 0 cs.toList (by simpa using ht)) hu hd (by simpa using hi)
  simpa using this
open Go.Proofs.YtfpoicdfkjbknaaDoor.P in
theorem but_setCells {b : Nat} : ∀ (vs : List Value) (o : Nat) (w x : World), But b x w → But b x (w.setCells b o vs)
  | [], _, _, _, h => h
  | v :: r, o, w, x, h => by rw [World.setCells]; exact but_setCells r (o + 1) _ _ (h.setCell (.inl rfl) v)
theorem below_setCells {b B : Nat} (hB : B ≤ b) : ∀ (vs : List Value) (o : Nat) (w x : World), Below B x w → Below B x (w.setCells b o vs)
  | [], _, _, _, h => h
  | v :: r, o, w, x, h => by rw [World.setCells]; exact below_setCells hB r (o + 1) _ _ (h.setCell hB v)
open Go.Proofs.YtfpoicdfkjbknaaDoor.P in
theorem owns_setCells {w : World} {B T n g : Nat} {v : Value} {xs vs : List Value} (h : w.ownsRow B T 1 v n xs) (hg : g < B) : (w.setCells g 0 vs).ownsRow B T 1 v n xs :=
  h.kept (but_setCells (b := g) vs 0 w w (But.refl _ _)).grown (by have := h.lt; cases hv : v.ownBlock with | none => exact .inl rfl | some q => (right; intro e; have := (this q hv).1; injection e; omega))
end Go.Proofs.YtfpoicdfkjbknaaDoor.W
