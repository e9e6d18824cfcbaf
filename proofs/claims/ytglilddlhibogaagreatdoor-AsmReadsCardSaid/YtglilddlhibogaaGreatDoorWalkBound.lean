/- The walks of package bound: what its functions compute. -/
import Derived.Test.YtglilddlhibogaaGreatDoorWalkOp
import Derived.Test.YtglilddlhibogaaGreatDoorPureBound
import Derived.RowKit3
import Derived.Deep.QuietTactic
import Derived.BigQuiet
import Derived.StillTailTactics
namespace Go.Proofs.YtglilddlhibogaaGreatDoor.W
open Go.RowKit Go.Proofs.YtglilddlhibogaaGreatDoor.P
set_option linter.unusedSimpArgs false
set_option linter.unusedVariables false

/-- 'wp_region_still_tail' in the walk's own words. -/
theorem wp_tail {P : Program} {id : Nat} {Q : Exit → Act → World → Prop} {a : Act} {w : World} {l : List Oper} (n : Nat) (hm : P.follows .mixedOrders = true) (hB : Region.lexTailB .any l.toArray n = true)
  (h : wpStill P l.toArray w.drew (fun a' => wpList P l.toArray Q (l.drop n) a' w.drew) (l.take n) a) : (Code.region id l.toArray true).wp P Q a w :=
 wp_region_still_tail n hm hB h
theorem Below.drewN' {B : Nat} {a w : World} (h : Below B a w) (n : Nat) : Below B a (w.drewN n) := ⟨h.os, h.tape, h.output, h.size, h.block⟩
/-! short names for what closes 'Below' step by step -/
theorem bR {B : Nat} {w : World} : Below B w w := Below.refl _ _
theorem bD {B : Nat} {a w : World} (h : Below B a w) : Below B a w.drew := h.drew
theorem bN {B : Nat} {a w : World} {n : Nat} (h : Below B a w) : Below B a (w.drewN n) := Below.drewN' h n
theorem bA {B : Nat} {a w : World} {o : Obj} (h : Below B a w) (hB : B ≤ w.heap.size) : Below B a (w.alloc o) := h.alloc hB o
theorem bS {B : Nat} {a w : World} {p : Addr} {u : Value} (h : Below B a w) (hp : B ≤ p.block) : Below B a (w.setCell p u) := h.setCell hp u
theorem bcell {W w1 : World} (hb : Below W.heap.size W w1) : (∀ b o, b < W.heap.size → w1.cell? ⟨b, o, none⟩ = W.cell? ⟨b, o, none⟩) ∧ (∀ b o, b < W.heap.size → w1.frozen? ⟨b, o, none⟩ = W.frozen? ⟨b, o, none⟩) :=
 ⟨fun b o h => hb.cell (p := ⟨b, o, none⟩) h, fun b o h => hb.frozen (p := ⟨b, o, none⟩) h⟩

set_option maxHeartbeats 1000000 in
theorem One_any (n : Int) (w : World) :
  Calls Tryz.prog 76 #[.int .i64 n] w fun e w' => e = .returned (.agg #[.int .i64 n, .int .i64 n]) ∧ Below w.heap.size w w' := by
 go_enter Tryz.func76, Tryz.ntmps76
 go_wp2_with fail
 exact bodyPost_ret (v := .agg #[.int .i64 n, .int .i64 n]) (by simp [results, Tryz.results76, go_sem]) rfl ⟨rfl, (by repeat (first | exact Below.refl _ _ | refine Below.drew ?_ | refine Below.drewN' ?_ _ | refine Below.alloc ?_ (by simp; try omega) _ | refine Below.setCell ?_ (by simp; try omega) _ | refine Below.trans ?_ (Below.mono (by assumption) (by simp; try omega)) | refine Below.trans ?_ (Below.mono (Lib.Hid.out (by assumption)) (by simp; try omega))))⟩

set_option maxHeartbeats 1000000 in
theorem All_any (w : World) :
  Calls Tryz.prog 153 #[] w fun e w' => e = .returned (.agg #[.int .i64 (-9223372036854775808), .int .i64 9223372036854775807]) ∧ Below w.heap.size w w' := by
 go_enter Tryz.func153, Tryz.ntmps153
 go_wp2_with fail
 exact bodyPost_ret (v := .agg #[.int .i64 (-9223372036854775808), .int .i64 9223372036854775807]) (by simp [results, Tryz.results153, go_sem]) rfl ⟨rfl, (by repeat (first | exact Below.refl _ _ | refine Below.drew ?_ | refine Below.drewN' ?_ _ | refine Below.alloc ?_ (by simp; try omega) _ | refine Below.setCell ?_ (by simp; try omega) _ | refine Below.trans ?_ (Below.mono (by assumption) (by simp; try omega)) | refine Below.trans ?_ (Below.mono (Lib.Hid.out (by assumption)) (by simp; try omega))))⟩

set_option maxHeartbeats 1000000 in
theorem Join_any (al ah bl bh : Int) (w : World) :
  Calls Tryz.prog 109 #[.agg #[.int .i64 al, .int .i64 ah], .agg #[.int .i64 bl, .int .i64 bh]] w fun e w' => e = .returned (.agg #[.int .i64 (min al bl), .int .i64 (max ah bh)]) ∧ Below w.heap.size w w' := by
 go_enter Tryz.func109, Tryz.ntmps109
 go_wp2_with fail
 exact bodyPost_ret (v := .agg #[.int .i64 (min al bl), .int .i64 (max ah bh)]) (by simp [results, Tryz.results109, go_sem]) rfl ⟨rfl, (by repeat (first | exact Below.refl _ _ | refine Below.drew ?_ | refine Below.drewN' ?_ _ | refine Below.alloc ?_ (by simp; try omega) _ | refine Below.setCell ?_ (by simp; try omega) _ | refine Below.trans ?_ (Below.mono (by assumption) (by simp; try omega)) | refine Below.trans ?_ (Below.mono (Lib.Hid.out (by assumption)) (by simp; try omega))))⟩

set_option maxHeartbeats 1000000 in
theorem Meet_any (al ah bl bh : Int) (w : World) :
  Calls Tryz.prog 181 #[.agg #[.int .i64 al, .int .i64 ah], .agg #[.int .i64 bl, .int .i64 bh]] w fun e w' =>
   e = .returned (.tuple #[.agg #[.int .i64 (bmeet ⟨al, ah⟩ ⟨bl, bh⟩).1.lo, .int .i64 (bmeet ⟨al, ah⟩ ⟨bl, bh⟩).1.hi], .bool (bmeet ⟨al, ah⟩ ⟨bl, bh⟩).2]) ∧ Below w.heap.size w w' := by
 by_cases h : max al bl > min ah bh
 ·have hm : bmeet ⟨al, ah⟩ ⟨bl, bh⟩ = (⟨0, 0⟩, false) := by unfold bmeet bnil; rw [if_pos h]
  rw [hm]
  clear hm
  go_enter Tryz.func181, Tryz.ntmps181
  go_wp2_with fail
  exact bodyPost_ret (v := .tuple #[.agg #[.int .i64 0, .int .i64 0], .bool false]) (by simp [results, Tryz.results181, go_sem]) rfl ⟨rfl, (by repeat (first | exact Below.refl _ _ | refine Below.drew ?_ | refine Below.drewN' ?_ _ | refine Below.alloc ?_ (by simp; try omega) _ | refine Below.setCell ?_ (by simp; try omega) _ | refine Below.trans ?_ (Below.mono (by assumption) (by simp; try omega)) | refine Below.trans ?_ (Below.mono (Lib.Hid.out (by assumption)) (by simp; try omega))))⟩
 ·have hm : bmeet ⟨al, ah⟩ ⟨bl, bh⟩ = (⟨max al bl, min ah bh⟩, true) := by unfold bmeet; rw [if_neg h]
  rw [hm]
  clear hm
  go_enter Tryz.func181, Tryz.ntmps181
  go_wp2_with fail
  exact bodyPost_ret (v := .tuple #[.agg #[.int .i64 (max al bl), .int .i64 (min ah bh)], .bool true]) (by simp [results, Tryz.results181, go_sem]) rfl ⟨rfl, (by repeat (first | exact Below.refl _ _ | refine Below.drew ?_ | refine Below.drewN' ?_ _ | refine Below.alloc ?_ (by simp; try omega) _ | refine Below.setCell ?_ (by simp; try omega) _ | refine Below.trans ?_ (Below.mono (by assumption) (by simp; try omega)) | refine Below.trans ?_ (Below.mono (Lib.Hid.out (by assumption)) (by simp; try omega))))⟩

set_option maxHeartbeats 1000000 in
theorem sum_any (a b : Int) (w : World) :
  Calls Tryz.prog 186 #[.int .i64 a, .int .i64 b] w fun e w' => e = .returned (.tuple #[.int .i64 (bsum a b).1, .bool (bsum a b).2]) ∧ w = w' := by
 go_enter Tryz.func186, Tryz.ntmps186
 go_wp2_with fail
 go_ret2
 exact ⟨rfl, rfl⟩

set_option maxHeartbeats 1000000 in
theorem less_any (a b : Int) (w : World) :
  Calls Tryz.prog 188 #[.int .i64 a, .int .i64 b] w fun e w' => e = .returned (.tuple #[.int .i64 (bless a b).1, .bool (bless a b).2]) ∧ w = w' := by
 go_enter Tryz.func188, Tryz.ntmps188
 go_wp2_with fail
 go_ret2
 exact ⟨rfl, rfl⟩

set_option maxHeartbeats 1000000 in
theorem pair_any (l h : Int) (a b : Bool) (w : World) :
  Calls Tryz.prog 187 #[.int .i64 l, .bool a, .int .i64 h, .bool b] w fun e w' => e = .returned (.agg #[.int .i64 (bpair l a h b).lo, .int .i64 (bpair l a h b).hi]) ∧ Below w.heap.size w w' := by
 cases a <;> cases b
 all_goals
  go_enter Tryz.func187, Tryz.ntmps187
  go_wp2_with ((go_at_call 153; refine (All_any _).mono ?_; rintro e w1 ⟨rfl, hb⟩; (obtain ⟨hc, hf⟩ := bcell hb; have hz := hb.size; simp at hz; have HB := Lib.hid hb; clear hb)))
  first
  | exact bodyPost_ret (v := .agg #[.int .i64 l, .int .i64 h]) (by simp [results, Tryz.results187, go_sem]) rfl ⟨rfl, (by repeat (first | exact Below.refl _ _ | refine Below.drew ?_ | refine Below.drewN' ?_ _ | refine Below.alloc ?_ (by simp; try omega) _ | refine Below.setCell ?_ (by simp; try omega) _ | refine Below.trans ?_ (Below.mono (by assumption) (by simp; try omega)) | refine Below.trans ?_ (Below.mono (Lib.Hid.out (by assumption)) (by simp; try omega))))⟩
  | exact bodyPost_ret (v := .agg #[.int .i64 (-9223372036854775808), .int .i64 9223372036854775807]) (by simp [results, Tryz.results187, go_sem, hc]) rfl ⟨rfl, (by repeat (first | exact Below.refl _ _ | refine Below.drew ?_ | refine Below.drewN' ?_ _ | refine Below.alloc ?_ (by simp; try omega) _ | refine Below.setCell ?_ (by simp; try omega) _ | refine Below.trans ?_ (Below.mono (by assumption) (by simp; try omega)) | refine Below.trans ?_ (Below.mono (Lib.Hid.out (by assumption)) (by simp; try omega))))⟩

theorem and63i (x : Int) : bits .and .i64 x 63 = (sh x : Int) := by
 rw [bits_and_nat]
 have h2 : (u x).toNat &&& (u 63).toNat = (u x).toNat % 64 := by
  have : (u 63).toNat = 63 := by decide
  rw [this]; exact Nat.and_two_pow_sub_one_eq_mod (u x).toNat 6
 rw [h2, wrap_of_in (by unfold In64; omega)]
 unfold sh
 rw [← sh_u x]
 have := u_nonneg x
 omega

set_option maxHeartbeats 1000000 in
theorem left_any (al ah : Int) (k : Nat) (hk : k < 64) (w : World) :
  Calls Tryz.prog 191 #[.agg #[.int .i64 al, .int .i64 ah], .int .u64 k] w fun e w' => e = .returned (.agg #[.int .i64 (bleft ⟨al, ah⟩ k).lo, .int .i64 (bleft ⟨al, ah⟩ k).hi]) ∧ Below w.heap.size w w' := by
 have k0 : (0 : Int) ≤ (k : Int) := by omega
 have k1 : (k : Int) ≤ 64 := by omega
 by_cases h1 : wrap64 (al * 2 ^ k) / 2 ^ k = al
 ·by_cases h2 : wrap64 (ah * 2 ^ k) / 2 ^ k = ah
  ·have e : bleft ⟨al, ah⟩ k = ⟨wrap64 (al * 2 ^ k), wrap64 (ah * 2 ^ k)⟩ := by unfold bleft; rw [if_neg]; simp [h1, h2]
   rw [e]
   have t1 : (wrap64 (al * 2 ^ k) / 2 ^ k != al) = false := by simp [h1]
   have t2 : (wrap64 (ah * 2 ^ k) / 2 ^ k != ah) = false := by simp [h2]
   clear e h1 h2
   go_enter Tryz.func191, Tryz.ntmps191
   go_wp2_with ((go_at_call 153; refine (All_any _).mono ?_; rintro e w1 ⟨rfl, hb⟩; (obtain ⟨hc, hf⟩ := bcell hb; have hz := hb.size; simp at hz; have HB := Lib.hid hb; clear hb)))
   go_quiet (fail)
   go_wp2_with ((go_at_call 153; refine (All_any _).mono ?_; rintro e w1 ⟨rfl, hb⟩; (obtain ⟨hc, hf⟩ := bcell hb; have hz := hb.size; simp at hz; have HB := Lib.hid hb; clear hb)))
   exact bodyPost_ret (v := .agg #[.int .i64 (wrap64 (al * 2 ^ k)), .int .i64 (wrap64 (ah * 2 ^ k))]) (by simp [results, Tryz.results191, go_sem]) rfl ⟨rfl, (by repeat (first | exact Below.refl _ _ | refine Below.drew ?_ | refine Below.drewN' ?_ _ | refine Below.alloc ?_ (by simp; try omega) _ | refine Below.setCell ?_ (by simp; try omega) _ | refine Below.trans ?_ (Below.mono (by assumption) (by simp; try omega)) | refine Below.trans ?_ (Below.mono (Lib.Hid.out (by assumption)) (by simp; try omega))))⟩
  ·have e : bleft ⟨al, ah⟩ k = ball := by unfold bleft; rw [if_pos]; simp [h2]
   rw [e]
   have t1 : (wrap64 (al * 2 ^ k) / 2 ^ k != al) = false := by simp [h1]
   have t2 : (wrap64 (ah * 2 ^ k) / 2 ^ k != ah) = true := by simp [h2]
   clear e h1 h2
   go_enter Tryz.func191, Tryz.ntmps191
   go_wp2_with ((go_at_call 153; refine (All_any _).mono ?_; rintro e w1 ⟨rfl, hb⟩; (obtain ⟨hc, hf⟩ := bcell hb; have hz := hb.size; simp at hz; have HB := Lib.hid hb; clear hb)))
   go_quiet (fail)
   go_wp2_with ((go_at_call 153; refine (All_any _).mono ?_; rintro e w1 ⟨rfl, hb⟩; (obtain ⟨hc, hf⟩ := bcell hb; have hz := hb.size; simp at hz; have HB := Lib.hid hb; clear hb)))
   exact bodyPost_ret (v := .agg #[.int .i64 (-9223372036854775808), .int .i64 9223372036854775807]) (by simp [results, Tryz.results191, go_sem, hc]) rfl ⟨rfl, (by repeat (first | exact Below.refl _ _ | refine Below.drew ?_ | refine Below.drewN' ?_ _ | refine Below.alloc ?_ (by simp; try omega) _ | refine Below.setCell ?_ (by simp; try omega) _ | refine Below.trans ?_ (Below.mono (by assumption) (by simp; try omega)) | refine Below.trans ?_ (Below.mono (Lib.Hid.out (by assumption)) (by simp; try omega))))⟩
 ·have e : bleft ⟨al, ah⟩ k = ball := by unfold bleft; rw [if_pos]; simp [h1]
  rw [e]
  have t1 : (wrap64 (al * 2 ^ k) / 2 ^ k != al) = true := by simp [h1]
  clear e h1
  go_enter Tryz.func191, Tryz.ntmps191
  go_wp2_with ((go_at_call 153; refine (All_any _).mono ?_; rintro e w1 ⟨rfl, hb⟩; (obtain ⟨hc, hf⟩ := bcell hb; have hz := hb.size; simp at hz; have HB := Lib.hid hb; clear hb)))
  go_quiet (fail)
  go_wp2_with ((go_at_call 153; refine (All_any _).mono ?_; rintro e w1 ⟨rfl, hb⟩; (obtain ⟨hc, hf⟩ := bcell hb; have hz := hb.size; simp at hz; have HB := Lib.hid hb; clear hb)))
  exact bodyPost_ret (v := .agg #[.int .i64 (-9223372036854775808), .int .i64 9223372036854775807]) (by simp [results, Tryz.results191, go_sem, hc]) rfl ⟨rfl, (by repeat (first | exact Below.refl _ _ | refine Below.drew ?_ | refine Below.drewN' ?_ _ | refine Below.alloc ?_ (by simp; try omega) _ | refine Below.setCell ?_ (by simp; try omega) _ | refine Below.trans ?_ (Below.mono (by assumption) (by simp; try omega)) | refine Below.trans ?_ (Below.mono (Lib.Hid.out (by assumption)) (by simp; try omega))))⟩

set_option maxHeartbeats 1000000 in
theorem right_any (al ah bl bh : Int) (w : World) :
  Calls Tryz.prog 192 #[.agg #[.int .i64 al, .int .i64 ah], .agg #[.int .i64 bl, .int .i64 bh]] w fun e w' => e = .returned (.agg #[.int .i64 (bright ⟨al, ah⟩ ⟨bl, bh⟩).lo, .int .i64 (bright ⟨al, ah⟩ ⟨bl, bh⟩).hi]) ∧ Below w.heap.size w w' := by
 have ke := and63i bl
 have k0 : (0 : Int) ≤ (sh bl : Int) := by omega
 have k1 : (sh bl : Int) ≤ 63 := by have := sh_lt bl; omega
 have k2 : (sh bl : Int) ≤ 64 := by omega
 by_cases hb : bl = bh
 ·subst hb
  by_cases hk : sh bl = 0
  ·have e : bright ⟨al, ah⟩ ⟨bl, bl⟩ = ⟨al, ah⟩ := by unfold bright; simp [hk]
   rw [e]
   have hk1 : ((sh bl : Int) == 0) = true := by simp [hk]
   clear e hk
   go_enter Tryz.func192, Tryz.ntmps192
   go_wp2_with ((go_at_call 153; refine (All_any _).mono ?_; rintro e w1 ⟨rfl, hb⟩; (obtain ⟨hc, hf⟩ := bcell hb; have hz := hb.size; simp at hz; have HB := Lib.hid hb; clear hb)))
   exact bodyPost_ret (v := .agg #[.int .i64 al, .int .i64 ah]) (by simp [results, Tryz.results192, go_sem]) rfl ⟨rfl, (by repeat (first | exact Below.refl _ _ | refine Below.drew ?_ | refine Below.drewN' ?_ _ | refine Below.alloc ?_ (by simp; try omega) _ | refine Below.setCell ?_ (by simp; try omega) _ | refine Below.trans ?_ (Below.mono (by assumption) (by simp; try omega)) | refine Below.trans ?_ (Below.mono (Lib.Hid.out (by assumption)) (by simp; try omega))))⟩
  ·have hk1 : ((sh bl : Int) == 0) = false := by simp [hk]
   have k3 : 1 ≤ (sh bl : Int) := by omega
   by_cases h0 : 0 ≤ al
   ·have e : bright ⟨al, ah⟩ ⟨bl, bl⟩ = ⟨al / 2 ^ sh bl, ah / 2 ^ sh bl⟩ := by unfold bright; simp [hk, h0]
    rw [e]
    clear e hk
    go_enter Tryz.func192, Tryz.ntmps192
    go_wp2_with ((go_at_call 153; refine (All_any _).mono ?_; rintro e w1 ⟨rfl, hb⟩; (obtain ⟨hc, hf⟩ := bcell hb; have hz := hb.size; simp at hz; have HB := Lib.hid hb; clear hb)))
    exact bodyPost_ret (v := .agg #[.int .i64 (al / 2 ^ sh bl), .int .i64 (ah / 2 ^ sh bl)]) (by simp [results, Tryz.results192, go_sem]) rfl ⟨rfl, (by repeat (first | exact Below.refl _ _ | refine Below.drew ?_ | refine Below.drewN' ?_ _ | refine Below.alloc ?_ (by simp; try omega) _ | refine Below.setCell ?_ (by simp; try omega) _ | refine Below.trans ?_ (Below.mono (by assumption) (by simp; try omega)) | refine Below.trans ?_ (Below.mono (Lib.Hid.out (by assumption)) (by simp; try omega))))⟩
   ·have e : bright ⟨al, ah⟩ ⟨bl, bl⟩ = ⟨0, 9223372036854775807 / 2 ^ (sh bl - 1)⟩ := by unfold bright; simp [hk, h0]
    rw [e]
    clear e hk
    go_enter Tryz.func192, Tryz.ntmps192
    go_wp2_with ((go_at_call 153; refine (All_any _).mono ?_; rintro e w1 ⟨rfl, hb⟩; (obtain ⟨hc, hf⟩ := bcell hb; have hz := hb.size; simp at hz; have HB := Lib.hid hb; clear hb)))
    exact bodyPost_ret (v := .agg #[.int .i64 0, .int .i64 (9223372036854775807 / 2 ^ (sh bl - 1))]) (by simp [results, Tryz.results192, go_sem]) rfl ⟨rfl, (by repeat (first | exact Below.refl _ _ | refine Below.drew ?_ | refine Below.drewN' ?_ _ | refine Below.alloc ?_ (by simp; try omega) _ | refine Below.setCell ?_ (by simp; try omega) _ | refine Below.trans ?_ (Below.mono (by assumption) (by simp; try omega)) | refine Below.trans ?_ (Below.mono (Lib.Hid.out (by assumption)) (by simp; try omega))))⟩
 ·have hb1 : (bl == bh) = false := by simp [hb]
  have hb2 : (bl != bh) = true := by simp [hb]
  by_cases h0 : 0 ≤ al
  ·have e : bright ⟨al, ah⟩ ⟨bl, bh⟩ = ⟨0, ah⟩ := by unfold bright; simp [hb, h0]
   rw [e]
   clear e hb
   go_enter Tryz.func192, Tryz.ntmps192
   go_wp2_with ((go_at_call 153; refine (All_any _).mono ?_; rintro e w1 ⟨rfl, hb⟩; (obtain ⟨hc, hf⟩ := bcell hb; have hz := hb.size; simp at hz; have HB := Lib.hid hb; clear hb)))
   exact bodyPost_ret (v := .agg #[.int .i64 0, .int .i64 ah]) (by simp [results, Tryz.results192, go_sem]) rfl ⟨rfl, (by repeat (first | exact Below.refl _ _ | refine Below.drew ?_ | refine Below.drewN' ?_ _ | refine Below.alloc ?_ (by simp; try omega) _ | refine Below.setCell ?_ (by simp; try omega) _ | refine Below.trans ?_ (Below.mono (by assumption) (by simp; try omega)) | refine Below.trans ?_ (Below.mono (Lib.Hid.out (by assumption)) (by simp; try omega))))⟩
  ·have e : bright ⟨al, ah⟩ ⟨bl, bh⟩ = ball := by unfold bright; simp [hb, h0]
   rw [e]
   clear e hb
   go_enter Tryz.func192, Tryz.ntmps192
   go_wp2_with ((go_at_call 153; refine (All_any _).mono ?_; rintro e w1 ⟨rfl, hb⟩; (obtain ⟨hc, hf⟩ := bcell hb; have hz := hb.size; simp at hz; have HB := Lib.hid hb; clear hb)))
   exact bodyPost_ret (v := .agg #[.int .i64 (-9223372036854775808), .int .i64 9223372036854775807]) (by simp [results, Tryz.results192, go_sem, hc]) rfl ⟨rfl, (by repeat (first | exact Below.refl _ _ | refine Below.drew ?_ | refine Below.drewN' ?_ _ | refine Below.alloc ?_ (by simp; try omega) _ | refine Below.setCell ?_ (by simp; try omega) _ | refine Below.trans ?_ (Below.mono (by assumption) (by simp; try omega)) | refine Below.trans ?_ (Below.mono (Lib.Hid.out (by assumption)) (by simp; try omega))))⟩

set_option maxHeartbeats 1000000 in
theorem signed_any (al ah bl bh : Int) (w : World) :
  Calls Tryz.prog 193 #[.agg #[.int .i64 al, .int .i64 ah], .agg #[.int .i64 bl, .int .i64 bh]] w fun e w' => e = .returned (.agg #[.int .i64 (bsigned ⟨al, ah⟩ ⟨bl, bh⟩).lo, .int .i64 (bsigned ⟨al, ah⟩ ⟨bl, bh⟩).hi]) ∧ Below w.heap.size w w' := by
 have ke := and63i bl
 have k0 : (0 : Int) ≤ (sh bl : Int) := by omega
 have k2 : (sh bl : Int) ≤ 64 := by have := sh_lt bl; omega
 by_cases hb : bl = bh
 ·subst hb
  have e : bsigned ⟨al, ah⟩ ⟨bl, bl⟩ = ⟨al / 2 ^ sh bl, ah / 2 ^ sh bl⟩ := by unfold bsigned; simp
  rw [e]
  clear e
  go_enter Tryz.func193, Tryz.ntmps193
  go_wp2_with ((go_at_call 153; refine (All_any _).mono ?_; rintro e w1 ⟨rfl, hb⟩; (obtain ⟨hc, hf⟩ := bcell hb; have hz := hb.size; simp at hz; have HB := Lib.hid hb; clear hb)))
  exact bodyPost_ret (v := .agg #[.int .i64 (al / 2 ^ sh bl), .int .i64 (ah / 2 ^ sh bl)]) (by simp [results, Tryz.results193, go_sem]) rfl ⟨rfl, (by repeat (first | exact Below.refl _ _ | refine Below.drew ?_ | refine Below.drewN' ?_ _ | refine Below.alloc ?_ (by simp; try omega) _ | refine Below.setCell ?_ (by simp; try omega) _ | refine Below.trans ?_ (Below.mono (by assumption) (by simp; try omega)) | refine Below.trans ?_ (Below.mono (Lib.Hid.out (by assumption)) (by simp; try omega))))⟩
 ·have hb1 : (bl == bh) = false := by simp [hb]
  by_cases h0 : 0 ≤ al
  ·have e : bsigned ⟨al, ah⟩ ⟨bl, bh⟩ = ⟨0, ah⟩ := by unfold bsigned; simp [hb, h0]
   rw [e]
   clear e hb
   go_enter Tryz.func193, Tryz.ntmps193
   go_wp2_with ((go_at_call 153; refine (All_any _).mono ?_; rintro e w1 ⟨rfl, hb⟩; (obtain ⟨hc, hf⟩ := bcell hb; have hz := hb.size; simp at hz; have HB := Lib.hid hb; clear hb)))
   exact bodyPost_ret (v := .agg #[.int .i64 0, .int .i64 ah]) (by simp [results, Tryz.results193, go_sem]) rfl ⟨rfl, (by repeat (first | exact Below.refl _ _ | refine Below.drew ?_ | refine Below.drewN' ?_ _ | refine Below.alloc ?_ (by simp; try omega) _ | refine Below.setCell ?_ (by simp; try omega) _ | refine Below.trans ?_ (Below.mono (by assumption) (by simp; try omega)) | refine Below.trans ?_ (Below.mono (Lib.Hid.out (by assumption)) (by simp; try omega))))⟩
  ·by_cases h3 : ah < 0
   ·have e : bsigned ⟨al, ah⟩ ⟨bl, bh⟩ = ⟨al, -1⟩ := by unfold bsigned; simp [hb, h0, h3]
    rw [e]
    clear e hb
    go_enter Tryz.func193, Tryz.ntmps193
    go_wp2_with ((go_at_call 153; refine (All_any _).mono ?_; rintro e w1 ⟨rfl, hb⟩; (obtain ⟨hc, hf⟩ := bcell hb; have hz := hb.size; simp at hz; have HB := Lib.hid hb; clear hb)))
    exact bodyPost_ret (v := .agg #[.int .i64 al, .int .i64 (-1)]) (by simp [results, Tryz.results193, go_sem]) rfl ⟨rfl, (by repeat (first | exact Below.refl _ _ | refine Below.drew ?_ | refine Below.drewN' ?_ _ | refine Below.alloc ?_ (by simp; try omega) _ | refine Below.setCell ?_ (by simp; try omega) _ | refine Below.trans ?_ (Below.mono (by assumption) (by simp; try omega)) | refine Below.trans ?_ (Below.mono (Lib.Hid.out (by assumption)) (by simp; try omega))))⟩
   ·have e : bsigned ⟨al, ah⟩ ⟨bl, bh⟩ = ⟨al, ah⟩ := by unfold bsigned; simp [hb, h0, h3]
    rw [e]
    clear e hb
    go_enter Tryz.func193, Tryz.ntmps193
    go_wp2_with ((go_at_call 153; refine (All_any _).mono ?_; rintro e w1 ⟨rfl, hb⟩; (obtain ⟨hc, hf⟩ := bcell hb; have hz := hb.size; simp at hz; have HB := Lib.hid hb; clear hb)))
    exact bodyPost_ret (v := .agg #[.int .i64 al, .int .i64 ah]) (by simp [results, Tryz.results193, go_sem]) rfl ⟨rfl, (by repeat (first | exact Below.refl _ _ | refine Below.drew ?_ | refine Below.drewN' ?_ _ | refine Below.alloc ?_ (by simp; try omega) _ | refine Below.setCell ?_ (by simp; try omega) _ | refine Below.trans ?_ (Below.mono (by assumption) (by simp; try omega)) | refine Below.trans ?_ (Below.mono (Lib.Hid.out (by assumption)) (by simp; try omega))))⟩

set_option maxRecDepth 100000 in
set_option maxHeartbeats 2000000 in
theorem bitwise_any (c al ah bl bh : Int) (hc3 : c = 7 ∨ c = 8 ∨ c = 9) (ha : In64 ah) (hb : In64 bh) (w : World) :
  Calls Tryz.prog 190 #[.int .i64 c, .agg #[.int .i64 al, .int .i64 ah], .agg #[.int .i64 bl, .int .i64 bh]] w fun e w' => e = .returned (.agg #[.int .i64 (bbit c ⟨al, ah⟩ ⟨bl, bh⟩).lo, .int .i64 (bbit c ⟨al, ah⟩ ⟨bl, bh⟩).hi]) ∧ Below w.heap.size w w' := by
 have hm := Lib.hid (show In64 (max ah bh) by unfold In64 at *; omega)
 clear ha hb
 rcases hc3 with rfl | rfl | rfl
 ·by_cases h1 : 0 ≤ al
  ·by_cases h2 : 0 ≤ bl
   ·have e : bbit 7 ⟨al, ah⟩ ⟨bl, bh⟩ = ⟨0, min ah bh⟩ := by unfold bbit; simp [h1, h2]
    rw [e]
    clear e
    go_enter Tryz.func190, Tryz.ntmps190
    go_wp2_with (first | (go_at_call 153; refine (All_any _).mono ?_; rintro e w1 ⟨rfl, hb⟩; (obtain ⟨hc, hf⟩ := bcell hb; have hz := hb.size; simp at hz; have HB := Lib.hid hb; clear hb)) | (go_at_call 207; refine (Fill_any _ hm.out _).mono ?_; rintro e w' ⟨rfl, rfl⟩))
    exact bodyPost_ret (v := .agg #[.int .i64 0, .int .i64 (min ah bh)]) (by simp [results, Tryz.results190, go_sem]) rfl ⟨rfl, (by repeat (first | exact Below.refl _ _ | refine Below.drew ?_ | refine Below.drewN' ?_ _ | refine Below.alloc ?_ (by simp; try omega) _ | refine Below.setCell ?_ (by simp; try omega) _ | refine Below.trans ?_ (Below.mono (by assumption) (by simp; try omega)) | refine Below.trans ?_ (Below.mono (Lib.Hid.out (by assumption)) (by simp; try omega))))⟩
   ·have e : bbit 7 ⟨al, ah⟩ ⟨bl, bh⟩ = ⟨0, ah⟩ := by unfold bbit; simp [h1, h2]
    rw [e]
    clear e
    go_enter Tryz.func190, Tryz.ntmps190
    go_wp2_with (first | (go_at_call 153; refine (All_any _).mono ?_; rintro e w1 ⟨rfl, hb⟩; (obtain ⟨hc, hf⟩ := bcell hb; have hz := hb.size; simp at hz; have HB := Lib.hid hb; clear hb)) | (go_at_call 207; refine (Fill_any _ hm.out _).mono ?_; rintro e w' ⟨rfl, rfl⟩))
    exact bodyPost_ret (v := .agg #[.int .i64 0, .int .i64 ah]) (by simp [results, Tryz.results190, go_sem]) rfl ⟨rfl, (by repeat (first | exact Below.refl _ _ | refine Below.drew ?_ | refine Below.drewN' ?_ _ | refine Below.alloc ?_ (by simp; try omega) _ | refine Below.setCell ?_ (by simp; try omega) _ | refine Below.trans ?_ (Below.mono (by assumption) (by simp; try omega)) | refine Below.trans ?_ (Below.mono (Lib.Hid.out (by assumption)) (by simp; try omega))))⟩
  ·by_cases h2 : 0 ≤ bl
   ·have e : bbit 7 ⟨al, ah⟩ ⟨bl, bh⟩ = ⟨0, bh⟩ := by unfold bbit; simp [h1, h2]
    rw [e]
    clear e
    go_enter Tryz.func190, Tryz.ntmps190
    go_wp2_with (first | (go_at_call 153; refine (All_any _).mono ?_; rintro e w1 ⟨rfl, hb⟩; (obtain ⟨hc, hf⟩ := bcell hb; have hz := hb.size; simp at hz; have HB := Lib.hid hb; clear hb)) | (go_at_call 207; refine (Fill_any _ hm.out _).mono ?_; rintro e w' ⟨rfl, rfl⟩))
    exact bodyPost_ret (v := .agg #[.int .i64 0, .int .i64 bh]) (by simp [results, Tryz.results190, go_sem]) rfl ⟨rfl, (by repeat (first | exact Below.refl _ _ | refine Below.drew ?_ | refine Below.drewN' ?_ _ | refine Below.alloc ?_ (by simp; try omega) _ | refine Below.setCell ?_ (by simp; try omega) _ | refine Below.trans ?_ (Below.mono (by assumption) (by simp; try omega)) | refine Below.trans ?_ (Below.mono (Lib.Hid.out (by assumption)) (by simp; try omega))))⟩
   ·have e : bbit 7 ⟨al, ah⟩ ⟨bl, bh⟩ = ball := by unfold bbit; simp [h1, h2]
    rw [e]
    clear e
    go_enter Tryz.func190, Tryz.ntmps190
    go_wp2_with (first | (go_at_call 153; refine (All_any _).mono ?_; rintro e w1 ⟨rfl, hb⟩; (obtain ⟨hc, hf⟩ := bcell hb; have hz := hb.size; simp at hz; have HB := Lib.hid hb; clear hb)) | (go_at_call 207; refine (Fill_any _ hm.out _).mono ?_; rintro e w' ⟨rfl, rfl⟩))
    exact bodyPost_ret (v := .agg #[.int .i64 (-9223372036854775808), .int .i64 9223372036854775807]) (by simp [results, Tryz.results190, go_sem, hc]) rfl ⟨rfl, (by repeat (first | exact Below.refl _ _ | refine Below.drew ?_ | refine Below.drewN' ?_ _ | refine Below.alloc ?_ (by simp; try omega) _ | refine Below.setCell ?_ (by simp; try omega) _ | refine Below.trans ?_ (Below.mono (by assumption) (by simp; try omega)) | refine Below.trans ?_ (Below.mono (Lib.Hid.out (by assumption)) (by simp; try omega))))⟩
 ·by_cases h1 : al < 0
  ·have e : bbit 8 ⟨al, ah⟩ ⟨bl, bh⟩ = ball := by unfold bbit; simp [h1]
   rw [e]
   clear e
   go_enter Tryz.func190, Tryz.ntmps190
   go_wp2_with (first | (go_at_call 153; refine (All_any _).mono ?_; rintro e w1 ⟨rfl, hb⟩; (obtain ⟨hc, hf⟩ := bcell hb; have hz := hb.size; simp at hz; have HB := Lib.hid hb; clear hb)) | (go_at_call 207; refine (Fill_any _ hm.out _).mono ?_; rintro e w' ⟨rfl, rfl⟩))
   exact bodyPost_ret (v := .agg #[.int .i64 (-9223372036854775808), .int .i64 9223372036854775807]) (by simp [results, Tryz.results190, go_sem, hc]) rfl ⟨rfl, (by repeat (first | exact Below.refl _ _ | refine Below.drew ?_ | refine Below.drewN' ?_ _ | refine Below.alloc ?_ (by simp; try omega) _ | refine Below.setCell ?_ (by simp; try omega) _ | refine Below.trans ?_ (Below.mono (by assumption) (by simp; try omega)) | refine Below.trans ?_ (Below.mono (Lib.Hid.out (by assumption)) (by simp; try omega))))⟩
  ·by_cases h2 : bl < 0
   ·have e : bbit 8 ⟨al, ah⟩ ⟨bl, bh⟩ = ball := by unfold bbit; simp [h2]
    rw [e]
    clear e
    go_enter Tryz.func190, Tryz.ntmps190
    go_wp2_with (first | (go_at_call 153; refine (All_any _).mono ?_; rintro e w1 ⟨rfl, hb⟩; (obtain ⟨hc, hf⟩ := bcell hb; have hz := hb.size; simp at hz; have HB := Lib.hid hb; clear hb)) | (go_at_call 207; refine (Fill_any _ hm.out _).mono ?_; rintro e w' ⟨rfl, rfl⟩))
    exact bodyPost_ret (v := .agg #[.int .i64 (-9223372036854775808), .int .i64 9223372036854775807]) (by simp [results, Tryz.results190, go_sem, hc]) rfl ⟨rfl, (by repeat (first | exact Below.refl _ _ | refine Below.drew ?_ | refine Below.drewN' ?_ _ | refine Below.alloc ?_ (by simp; try omega) _ | refine Below.setCell ?_ (by simp; try omega) _ | refine Below.trans ?_ (Below.mono (by assumption) (by simp; try omega)) | refine Below.trans ?_ (Below.mono (Lib.Hid.out (by assumption)) (by simp; try omega))))⟩
   ·have e : bbit 8 ⟨al, ah⟩ ⟨bl, bh⟩ = ⟨max al bl, P.fill (max ah bh)⟩ := by unfold bbit; simp [h1, h2]
    rw [e]
    clear e
    go_enter Tryz.func190, Tryz.ntmps190
    go_wp2_with (first | (go_at_call 153; refine (All_any _).mono ?_; rintro e w1 ⟨rfl, hb⟩; (obtain ⟨hc, hf⟩ := bcell hb; have hz := hb.size; simp at hz; have HB := Lib.hid hb; clear hb)) | (go_at_call 207; refine (Fill_any _ hm.out _).mono ?_; rintro e w' ⟨rfl, rfl⟩))
    refine wp_tail 12 (by kernel_rfl) (by kernel_rfl) ?_
    simp only [List.take_succ_cons, List.take_zero, List.drop_succ_cons, List.drop_zero]
    repeat still_step
    still_call ((Fill_any _ hm.out _).mono (fun _ _ h => ⟨h.1, h.2.symm⟩))
    repeat still_step
    refine wpStill_nil ?_
    go_wp2_with fail
    exact bodyPost_ret (v := .agg #[.int .i64 (max al bl), .int .i64 (P.fill (max ah bh))]) (by simp [results, Tryz.results190, go_sem]) rfl ⟨rfl, (by repeat (first | exact Below.refl _ _ | refine Below.drew ?_ | refine Below.drewN' ?_ _ | refine Below.alloc ?_ (by simp; try omega) _ | refine Below.setCell ?_ (by simp; try omega) _ | refine Below.trans ?_ (Below.mono (by assumption) (by simp; try omega)) | refine Below.trans ?_ (Below.mono (Lib.Hid.out (by assumption)) (by simp; try omega))))⟩
 ·by_cases h1 : al < 0
  ·have e : bbit 9 ⟨al, ah⟩ ⟨bl, bh⟩ = ball := by unfold bbit; simp [h1]
   rw [e]
   clear e
   go_enter Tryz.func190, Tryz.ntmps190
   go_wp2_with (first | (go_at_call 153; refine (All_any _).mono ?_; rintro e w1 ⟨rfl, hb⟩; (obtain ⟨hc, hf⟩ := bcell hb; have hz := hb.size; simp at hz; have HB := Lib.hid hb; clear hb)) | (go_at_call 207; refine (Fill_any _ hm.out _).mono ?_; rintro e w' ⟨rfl, rfl⟩))
   exact bodyPost_ret (v := .agg #[.int .i64 (-9223372036854775808), .int .i64 9223372036854775807]) (by simp [results, Tryz.results190, go_sem, hc]) rfl ⟨rfl, (by repeat (first | exact Below.refl _ _ | refine Below.drew ?_ | refine Below.drewN' ?_ _ | refine Below.alloc ?_ (by simp; try omega) _ | refine Below.setCell ?_ (by simp; try omega) _ | refine Below.trans ?_ (Below.mono (by assumption) (by simp; try omega)) | refine Below.trans ?_ (Below.mono (Lib.Hid.out (by assumption)) (by simp; try omega))))⟩
  ·by_cases h2 : bl < 0
   ·have e : bbit 9 ⟨al, ah⟩ ⟨bl, bh⟩ = ball := by unfold bbit; simp [h2]
    rw [e]
    clear e
    go_enter Tryz.func190, Tryz.ntmps190
    go_wp2_with (first | (go_at_call 153; refine (All_any _).mono ?_; rintro e w1 ⟨rfl, hb⟩; (obtain ⟨hc, hf⟩ := bcell hb; have hz := hb.size; simp at hz; have HB := Lib.hid hb; clear hb)) | (go_at_call 207; refine (Fill_any _ hm.out _).mono ?_; rintro e w' ⟨rfl, rfl⟩))
    exact bodyPost_ret (v := .agg #[.int .i64 (-9223372036854775808), .int .i64 9223372036854775807]) (by simp [results, Tryz.results190, go_sem, hc]) rfl ⟨rfl, (by repeat (first | exact Below.refl _ _ | refine Below.drew ?_ | refine Below.drewN' ?_ _ | refine Below.alloc ?_ (by simp; try omega) _ | refine Below.setCell ?_ (by simp; try omega) _ | refine Below.trans ?_ (Below.mono (by assumption) (by simp; try omega)) | refine Below.trans ?_ (Below.mono (Lib.Hid.out (by assumption)) (by simp; try omega))))⟩
   ·have e : bbit 9 ⟨al, ah⟩ ⟨bl, bh⟩ = ⟨0, P.fill (max ah bh)⟩ := by unfold bbit; simp [h1, h2]
    rw [e]
    clear e
    go_enter Tryz.func190, Tryz.ntmps190
    go_wp2_with (first | (go_at_call 153; refine (All_any _).mono ?_; rintro e w1 ⟨rfl, hb⟩; (obtain ⟨hc, hf⟩ := bcell hb; have hz := hb.size; simp at hz; have HB := Lib.hid hb; clear hb)) | (go_at_call 207; refine (Fill_any _ hm.out _).mono ?_; rintro e w' ⟨rfl, rfl⟩))
    exact bodyPost_ret (v := .agg #[.int .i64 0, .int .i64 (P.fill (max ah bh))]) (by simp [results, Tryz.results190, go_sem]) rfl ⟨rfl, (by repeat (first | exact Below.refl _ _ | refine Below.drew ?_ | refine Below.drewN' ?_ _ | refine Below.alloc ?_ (by simp; try omega) _ | refine Below.setCell ?_ (by simp; try omega) _ | refine Below.trans ?_ (Below.mono (by assumption) (by simp; try omega)) | refine Below.trans ?_ (Below.mono (Lib.Hid.out (by assumption)) (by simp; try omega))))⟩

end Go.Proofs.YtglilddlhibogaaGreatDoor.W
