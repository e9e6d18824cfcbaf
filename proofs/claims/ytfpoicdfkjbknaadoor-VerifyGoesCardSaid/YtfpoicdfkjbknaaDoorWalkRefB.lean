/- The walks of the reference's functions on bounds. No conditions beyond each theorem's own: the ends are int64's in order, and the variable 'all' holds all numbers. -/
import Derived.Test.YtfpoicdfkjbknaaDoorWalkBound
import Derived.Test.YtfpoicdfkjbknaaDoorWalkRef
import Derived.Test.YtfpoicdfkjbknaaDoorPureBoundRef
namespace Go.Proofs.YtfpoicdfkjbknaaDoor.W
open Go.RowKit Go.Proofs.YtfpoicdfkjbknaaDoor.P
set_option linter.unusedSimpArgs false
set_option linter.unusedVariables false

set_option maxHeartbeats 1000000 in
theorem RefOne_any (n : Int) (w : World) :
  Calls Tryd.prog 32 #[.int .i64 n] w fun e w' => e = .returned (.agg #[.int .i64 n, .int .i64 n]) ∧ Below w.heap.size w w' := by
 go_enter Tryd.func32, Tryd.ntmps32
 go_wp2_with fail
 exact bodyPost_ret (v := .agg #[.int .i64 n, .int .i64 n]) (by simp [results, Tryd.results32, go_sem]) rfl ⟨rfl, (by repeat (first | exact Below.refl _ _ | refine Below.drew ?_ | refine Below.drewN' ?_ _ | refine Below.alloc ?_ (by simp; try omega) _ | refine Below.setCell ?_ (by simp; try omega) _ | refine Below.trans ?_ (Below.mono (by assumption) (by simp; try omega)) | refine Below.trans ?_ (Below.mono (Lib.Hid.out (by assumption)) (by simp; try omega))))⟩

set_option maxHeartbeats 1000000 in
theorem RefJoin_any (al ah bl bh : Int) (w : World) :
  Calls Tryd.prog 34 #[.agg #[.int .i64 al, .int .i64 ah], .agg #[.int .i64 bl, .int .i64 bh]] w fun e w' => e = .returned (.agg #[.int .i64 (min al bl), .int .i64 (max ah bh)]) ∧ Below w.heap.size w w' := by
 go_enter Tryd.func34, Tryd.ntmps34
 go_wp2_with fail
 exact bodyPost_ret (v := .agg #[.int .i64 (min al bl), .int .i64 (max ah bh)]) (by simp [results, Tryd.results34, go_sem]) rfl ⟨rfl, (by repeat (first | exact Below.refl _ _ | refine Below.drew ?_ | refine Below.drewN' ?_ _ | refine Below.alloc ?_ (by simp; try omega) _ | refine Below.setCell ?_ (by simp; try omega) _ | refine Below.trans ?_ (Below.mono (by assumption) (by simp; try omega)) | refine Below.trans ?_ (Below.mono (Lib.Hid.out (by assumption)) (by simp; try omega))))⟩

set_option maxHeartbeats 1000000 in
theorem RefMeet_any (al ah bl bh : Int) (w : World) :
  Calls Tryd.prog 96 #[.agg #[.int .i64 al, .int .i64 ah], .agg #[.int .i64 bl, .int .i64 bh]] w fun e w' =>
   e = .returned (.tuple #[.agg #[.int .i64 (bmeet ⟨al, ah⟩ ⟨bl, bh⟩).1.lo, .int .i64 (bmeet ⟨al, ah⟩ ⟨bl, bh⟩).1.hi], .bool (bmeet ⟨al, ah⟩ ⟨bl, bh⟩).2]) ∧ Below w.heap.size w w' := by
 by_cases h : max al bl > min ah bh
 ·have hm : bmeet ⟨al, ah⟩ ⟨bl, bh⟩ = (⟨0, 0⟩, false) := by unfold bmeet bnil; rw [if_pos h]
  rw [hm]
  clear hm
  go_enter Tryd.func96, Tryd.ntmps96
  go_wp2_with fail
  exact bodyPost_ret (v := .tuple #[.agg #[.int .i64 0, .int .i64 0], .bool false]) (by simp [results, Tryd.results96, go_sem]) rfl ⟨rfl, (by repeat (first | exact Below.refl _ _ | refine Below.drew ?_ | refine Below.drewN' ?_ _ | refine Below.alloc ?_ (by simp; try omega) _ | refine Below.setCell ?_ (by simp; try omega) _ | refine Below.trans ?_ (Below.mono (by assumption) (by simp; try omega)) | refine Below.trans ?_ (Below.mono (Lib.Hid.out (by assumption)) (by simp; try omega))))⟩
 ·have hm : bmeet ⟨al, ah⟩ ⟨bl, bh⟩ = (⟨max al bl, min ah bh⟩, true) := by unfold bmeet; rw [if_neg h]
  rw [hm]
  clear hm
  go_enter Tryd.func96, Tryd.ntmps96
  go_wp2_with fail
  exact bodyPost_ret (v := .tuple #[.agg #[.int .i64 (max al bl), .int .i64 (min ah bh)], .bool true]) (by simp [results, Tryd.results96, go_sem]) rfl ⟨rfl, (by repeat (first | exact Below.refl _ _ | refine Below.drew ?_ | refine Below.drewN' ?_ _ | refine Below.alloc ?_ (by simp; try omega) _ | refine Below.setCell ?_ (by simp; try omega) _ | refine Below.trans ?_ (Below.mono (by assumption) (by simp; try omega)) | refine Below.trans ?_ (Below.mono (Lib.Hid.out (by assumption)) (by simp; try omega))))⟩

set_option maxHeartbeats 1000000 in
theorem RefAdd_any (a b : Int) (hb : In64 b) (w : World) :
  Calls Tryd.prog 98 #[.int .i64 a, .int .i64 b] w fun e w' => e = .returned (.tuple #[.int .i64 (radd a b).1, .bool (radd a b).2]) ∧ w = w' := by
 have b1 : b ≤ 9223372036854775807 := hb.2
 have b2 : -9223372036854775808 ≤ b := hb.1
 clear hb
 by_cases h1 : 0 < b
 ·have n1 : ¬ b < 0 := by omega
  by_cases h2 : a > 9223372036854775807 - b
  ·have e : radd a b = (0, false) := by unfold radd; rw [if_pos (.inl ⟨h1, h2⟩)]
   rw [e]; clear e
   go_enter Tryd.func98, Tryd.ntmps98
   go_wp2_with fail
   go_ret2
   exact ⟨rfl, rfl⟩
  ·have e : radd a b = (wrap64 (a + b), true) := by unfold radd; rw [if_neg (by omega)]
   rw [e]; clear e
   go_enter Tryd.func98, Tryd.ntmps98
   go_wp2_with fail
   go_ret2
   exact ⟨rfl, rfl⟩
 ·by_cases h3 : b < 0
  ·by_cases h4 : a < -9223372036854775808 - b
   ·have e : radd a b = (0, false) := by unfold radd; rw [if_pos (.inr ⟨h3, h4⟩)]
    rw [e]; clear e
    go_enter Tryd.func98, Tryd.ntmps98
    go_wp2_with fail
    go_ret2
    exact ⟨rfl, rfl⟩
   ·have e : radd a b = (wrap64 (a + b), true) := by unfold radd; rw [if_neg (by omega)]
    rw [e]; clear e
    go_enter Tryd.func98, Tryd.ntmps98
    go_wp2_with fail
    go_ret2
    exact ⟨rfl, rfl⟩
  ·have e : radd a b = (wrap64 (a + b), true) := by unfold radd; rw [if_neg (by omega)]
   rw [e]; clear e
   go_enter Tryd.func98, Tryd.ntmps98
   go_wp2_with fail
   go_ret2
   exact ⟨rfl, rfl⟩

set_option maxHeartbeats 1000000 in
theorem RefSub_any (a b : Int) (hb : In64 b) (w : World) :
  Calls Tryd.prog 99 #[.int .i64 a, .int .i64 b] w fun e w' => e = .returned (.tuple #[.int .i64 (rsub a b).1, .bool (rsub a b).2]) ∧ w = w' := by
 have b1 : b ≤ 9223372036854775807 := hb.2
 have b2 : -9223372036854775808 ≤ b := hb.1
 clear hb
 by_cases h1 : 0 < b
 ·have n1 : ¬ b < 0 := by omega
  by_cases h2 : a < -9223372036854775808 + b
  ·have e : rsub a b = (0, false) := by unfold rsub; rw [if_pos (.inl ⟨h1, h2⟩)]
   rw [e]; clear e
   go_enter Tryd.func99, Tryd.ntmps99
   go_wp2_with fail
   go_ret2
   exact ⟨rfl, rfl⟩
  ·have e : rsub a b = (wrap64 (a - b), true) := by unfold rsub; rw [if_neg (by omega)]
   rw [e]; clear e
   go_enter Tryd.func99, Tryd.ntmps99
   go_wp2_with fail
   go_ret2
   exact ⟨rfl, rfl⟩
 ·by_cases h3 : b < 0
  ·by_cases h4 : a > 9223372036854775807 + b
   ·have e : rsub a b = (0, false) := by unfold rsub; rw [if_pos (.inr ⟨h3, h4⟩)]
    rw [e]; clear e
    go_enter Tryd.func99, Tryd.ntmps99
    go_wp2_with fail
    go_ret2
    exact ⟨rfl, rfl⟩
   ·have e : rsub a b = (wrap64 (a - b), true) := by unfold rsub; rw [if_neg (by omega)]
    rw [e]; clear e
    go_enter Tryd.func99, Tryd.ntmps99
    go_wp2_with fail
    go_ret2
    exact ⟨rfl, rfl⟩
  ·have e : rsub a b = (wrap64 (a - b), true) := by unfold rsub; rw [if_neg (by omega)]
   rw [e]; clear e
   go_enter Tryd.func99, Tryd.ntmps99
   go_wp2_with fail
   go_ret2
   exact ⟨rfl, rfl⟩

set_option maxHeartbeats 1000000 in
theorem Down_any (a k : Int) (ha : In64 a) (hk : In64 k) (w : World) :
  Calls Tryd.prog 101 #[.int .i64 a, .int .i64 k] w fun e w' => e = .returned (.int .i64 (P.does 12 a k)) ∧ w = w' := by
 have ha' := Lib.hid ha
 have hk' := Lib.hid hk
 clear ha hk
 go_enter Tryd.func101, Tryd.ntmps101
 go_wp2_with fail
 refine (RefDoes_any _ _ _ ha'.out hk'.out _).mono ?_
 rintro e w' ⟨rfl, rfl⟩
 go_wp2_with fail
 go_ret
 exact ⟨rfl, rfl⟩

set_option maxRecDepth 100000 in
set_option maxHeartbeats 4000000 in
theorem RefOpposite_any (c : Int) (hc : P.asks c = true) (w : World) :
  Calls Tryd.prog 77 #[.int .i64 c] w fun e w' => e = .returned (.int .i64 (opp c)) ∧ Below w.heap.size w w' := by
 rcases asks_cases hc with rfl | rfl | rfl | rfl | rfl | rfl | rfl | rfl | rfl | rfl
 all_goals
  clear hc
  go_enter Tryd.func77, Tryd.ntmps77
  go_wp2_with fail
  refine wp_loop_rounds 6 ?_
  rw [rounds_succ]
  go_wp2_with (rw [rounds_succ])
  go_ret
  exact ⟨rfl, (by repeat (first | exact Below.refl _ _ | refine Below.drew ?_ | refine Below.drewN' ?_ _ | refine Below.alloc ?_ (by simp; try omega) _ | refine Below.setCell ?_ (by simp; try omega) _ | refine Below.trans ?_ (Below.mono (by assumption) (by simp; try omega)) | refine Below.trans ?_ (Below.mono (Lib.Hid.out (by assumption)) (by simp; try omega))))⟩

set_option maxRecDepth 100000 in
set_option maxHeartbeats 4000000 in
theorem RefCut_any (al ah bl bh : Int) (ia : In64 al) (ia2 : In64 ah) (ha : al ≤ ah) (w : World) :
  Calls Tryd.prog 97 #[.agg #[.int .i64 al, .int .i64 ah], .agg #[.int .i64 bl, .int .i64 bh]] w fun e w' => e = .returned (.agg #[.int .i64 (bcut ⟨al, ah⟩ ⟨bl, bh⟩).lo, .int .i64 (bcut ⟨al, ah⟩ ⟨bl, bh⟩).hi]) ∧ Below w.heap.size w w' := by
 by_cases h1 : bl = bh
 ·by_cases h2 : al < ah
  ·have t1 : (bl == bh) = true := by simp [h1]
   have t2 : (al != ah) = true := by simp; omega
   have v1 : al + 1 ≤ 9223372036854775807 := by unfold In64 at ia2; omega
   have v2 : -9223372036854775808 ≤ al + 1 := by unfold In64 at ia; omega
   have v3 : ah - 1 ≤ 9223372036854775807 := by unfold In64 at ia2; omega
   have v4 : -9223372036854775808 ≤ ah - 1 := by unfold In64 at ia; omega
   by_cases h3 : al = bl
   ·have e : bcut ⟨al, ah⟩ ⟨bl, bh⟩ = ⟨al + 1, ah⟩ := by unfold bcut; rw [if_pos ⟨h1, h2⟩, if_pos h3]
    rw [e]
    have t3 : (al == bl) = true := by simp [h3]
    clear e h1 h2 h3 ia ia2 ha
    go_enter Tryd.func97, Tryd.ntmps97
    go_wp2_with fail
    exact bodyPost_ret (v := .agg #[.int .i64 (al + 1), .int .i64 ah]) (by simp [results, Tryd.results97, go_sem]) rfl ⟨rfl, (by repeat (first | exact Below.refl _ _ | refine Below.drew ?_ | refine Below.drewN' ?_ _ | refine Below.alloc ?_ (by simp; try omega) _ | refine Below.setCell ?_ (by simp; try omega) _ | refine Below.trans ?_ (Below.mono (by assumption) (by simp; try omega)) | refine Below.trans ?_ (Below.mono (Lib.Hid.out (by assumption)) (by simp; try omega))))⟩
   ·have t3 : (al == bl) = false := by simp [h3]
    by_cases h4 : ah = bl
    ·have e : bcut ⟨al, ah⟩ ⟨bl, bh⟩ = ⟨al, ah - 1⟩ := by unfold bcut; rw [if_pos ⟨h1, h2⟩, if_neg h3, if_pos h4]
     rw [e]
     have t4 : (ah == bl) = true := by simp [h4]
     clear e h1 h2 h3 h4 ia ia2 ha
     go_enter Tryd.func97, Tryd.ntmps97
     go_wp2_with fail
     exact bodyPost_ret (v := .agg #[.int .i64 al, .int .i64 (ah - 1)]) (by simp [results, Tryd.results97, go_sem]) rfl ⟨rfl, (by repeat (first | exact Below.refl _ _ | refine Below.drew ?_ | refine Below.drewN' ?_ _ | refine Below.alloc ?_ (by simp; try omega) _ | refine Below.setCell ?_ (by simp; try omega) _ | refine Below.trans ?_ (Below.mono (by assumption) (by simp; try omega)) | refine Below.trans ?_ (Below.mono (Lib.Hid.out (by assumption)) (by simp; try omega))))⟩
    ·have e : bcut ⟨al, ah⟩ ⟨bl, bh⟩ = ⟨al, ah⟩ := by unfold bcut; rw [if_pos ⟨h1, h2⟩, if_neg h3, if_neg h4]
     rw [e]
     have t4 : (ah == bl) = false := by simp [h4]
     clear e h1 h2 h3 h4 ia ia2 ha
     go_enter Tryd.func97, Tryd.ntmps97
     go_wp2_with fail
     exact bodyPost_ret (v := .agg #[.int .i64 al, .int .i64 ah]) (by simp [results, Tryd.results97, go_sem]) rfl ⟨rfl, (by repeat (first | exact Below.refl _ _ | refine Below.drew ?_ | refine Below.drewN' ?_ _ | refine Below.alloc ?_ (by simp; try omega) _ | refine Below.setCell ?_ (by simp; try omega) _ | refine Below.trans ?_ (Below.mono (by assumption) (by simp; try omega)) | refine Below.trans ?_ (Below.mono (Lib.Hid.out (by assumption)) (by simp; try omega))))⟩
  ·have e : bcut ⟨al, ah⟩ ⟨bl, bh⟩ = ⟨al, ah⟩ := by unfold bcut; rw [if_neg (by simp only; omega)]
   rw [e]
   have t1 : (bl == bh) = true := by simp [h1]
   have t2 : (al != ah) = false := by simp; omega
   clear e h1 h2 ia ia2 ha
   go_enter Tryd.func97, Tryd.ntmps97
   go_wp2_with fail
   exact bodyPost_ret (v := .agg #[.int .i64 al, .int .i64 ah]) (by simp [results, Tryd.results97, go_sem]) rfl ⟨rfl, (by repeat (first | exact Below.refl _ _ | refine Below.drew ?_ | refine Below.drewN' ?_ _ | refine Below.alloc ?_ (by simp; try omega) _ | refine Below.setCell ?_ (by simp; try omega) _ | refine Below.trans ?_ (Below.mono (by assumption) (by simp; try omega)) | refine Below.trans ?_ (Below.mono (Lib.Hid.out (by assumption)) (by simp; try omega))))⟩
 ·have e : bcut ⟨al, ah⟩ ⟨bl, bh⟩ = ⟨al, ah⟩ := by unfold bcut; rw [if_neg (by simp only; omega)]
  rw [e]
  have t1 : (bl == bh) = false := by simp [h1]
  clear e h1 ia ia2 ha
  go_enter Tryd.func97, Tryd.ntmps97
  go_wp2_with fail
  exact bodyPost_ret (v := .agg #[.int .i64 al, .int .i64 ah]) (by simp [results, Tryd.results97, go_sem]) rfl ⟨rfl, (by repeat (first | exact Below.refl _ _ | refine Below.drew ?_ | refine Below.drewN' ?_ _ | refine Below.alloc ?_ (by simp; try omega) _ | refine Below.setCell ?_ (by simp; try omega) _ | refine Below.trans ?_ (Below.mono (by assumption) (by simp; try omega)) | refine Below.trans ?_ (Below.mono (Lib.Hid.out (by assumption)) (by simp; try omega))))⟩

end Go.Proofs.YtfpoicdfkjbknaaDoor.W
