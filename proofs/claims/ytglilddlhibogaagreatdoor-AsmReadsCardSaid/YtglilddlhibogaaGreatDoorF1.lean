/- The reference's reading of numbers and of registers. Conditions: the tables that reading reads lie in the world. -/
import Derived.Test.YtglilddlhibogaaGreatDoorN1
import Derived.Test.YtglilddlhibogaaGreatDoorCat
import Derived.Test.YtglilddlhibogaaGreatDoorPureRefRead
namespace Go.Proofs.YtglilddlhibogaaGreatDoor.W
open Go.RowKit Go.Proofs.YtglilddlhibogaaGreatDoor.P
set_option linter.unusedSimpArgs false
set_option linter.unusedVariables false

theorem FNum_any (n : Int) (hn : In64 n) (w : World) (h : RTabs w) : Calls Tryz.prog 90 #[.int .i64 n] w fun e w' => e = .returned (.string (bs (num n))) ∧ Below w.heap.size w w' := by
 have H := Lib.hid h
 have HN := Lib.hid hn
 clear h hn
 go_enter Tryz.func90, Tryz.ntmps90
 go_wp2_with fail
 refine (NFmt_any n HN.out _ H.out).mono ?_
 rintro e w1 ⟨rfl, hb⟩
 have HB := Lib.hid hb
 clear hb
 go_wp2_with fail
 go_ret
 exact ⟨rfl, HB.out⟩
set_option maxRecDepth 100000 in
set_option maxHeartbeats 2000000 in
theorem FNumber_any (s : List UInt8) (hs : s.length ≤ 100000) (w : World) (h : RTabs w) : Calls Tryz.prog 60 #[.string (bs s)] w (NumIs (rnum s) w) := by
 have H := Lib.hid h
 clear h
 go_enter Tryz.func60, Tryz.ntmps60
 go_wp2_with fail
 refine (NParse_any s hs _ H.out).mono ?_
 rintro e w1 ⟨h, hb⟩
 have HB := Lib.hid hb
 clear hb
 rcases h with ⟨v, hp, hv, rfl⟩ | ⟨hp, m, t, p, hm, rfl⟩
 ·have HV := Lib.hid hv
  have HP := Lib.hid hp
  clear hv hp
  go_wp2_with fail
  refine (FNum_any v HV.out _ (H.out.later HB.out)).mono ?_
  rintro e w2 ⟨rfl, hb⟩
  have HB2 := Lib.hid (HB.out.trans (hb.mono HB.out.size))
  clear hb
  by_cases he : num v = s
  ·subst he
   go_wp2_with fail
   refine bodyPost_ret (v := .tuple #[.int .i64 v, .bool true]) ?_ rfl ⟨⟨v, true, rfl, HV.out, ?_⟩, HB2.out⟩
   ·simp [results, Tryz.results60, go_sem]
   ·rw [if_pos rfl]; exact rnum_num HV.out
  ·have hb' : ¬ (bs (num v)).toList = (bs s).toList := by
    rw [ByteArray.toList_eq, ByteArray.toList_eq, bs_data, bs_data]; exact he
   have HE := Lib.hid he
   clear he
   go_wp2_with fail
   refine bodyPost_ret (v := .tuple #[.int .i64 v, .bool false]) ?_ rfl ⟨⟨v, false, rfl, HV.out, ?_⟩, HB2.out⟩
   ·simp [results, Tryz.results60, go_sem, *]
   ·unfold rnum; rw [HP.out]; simp only; rw [if_neg HE.out]; simp
 ·have HM := Lib.hid hm
  have HP := Lib.hid hp
  clear hm hp
  go_wp2_with fail
  refine bodyPost_ret (v := .tuple #[.int .i64 m, .bool false]) ?_ rfl ⟨⟨m, false, rfl, HM.out, ?_⟩, HB.out⟩
  ·simp [results, Tryz.results60, go_sem]
  ·unfold rnum
   rcases hc : Lib.parseIntB 64 s with v | _ | _
   ·exact absurd hc (HP.out v)
   ·simp
   ·simp
set_option maxRecDepth 100000 in
set_option maxHeartbeats 4000000 in
theorem FRegister_any (s : List UInt8) (hs : s.length ≤ 100000) (w : World) (h : RTabs w) : Calls Tryz.prog 59 #[.string (bs s)] w (NumIs (rreg s) w) := by
 have H := Lib.hid h
 clear h
 go_enter Tryz.func59, Tryz.ntmps59
 go_wp2_with fail
 go_loopw [5] (fun i wr => ∃ k : Nat, k ≤ 11 ∧ i = .int .i64 k ∧ (∀ j : Nat, j < k → s ≠ rg j) ∧ Below w.heap.size w wr) (fun i _ => 11 - (intOf i).toNat)
 case atStart => exact ⟨0, by omega, rfl, fun j hj => by omega, Below.refl _ _⟩
 case round =>
  obtain ⟨k, hk, rfl, hno, HB⟩ := hrel
  have HN := Lib.hid hno
  have HBr := Lib.hid HB
  clear hno HB
  by_cases h : k < 11
  ·have hk1 : (k : Int) < 11 := by omega
   have hn : In64 (k : Int) := by unfold In64; omega
   have L1 := num_length hn
   have HK := Lib.hid hn
   clear hn
   go_wp2_with fail
   refine (FNum_any (k : Int) HK.out _ (H.out.later HBr.out)).mono ?_
   rintro e w1 ⟨rfl, hb⟩
   have HB1 := Lib.hid (HBr.out.trans (hb.mono HBr.out.size))
   clear hb
   by_cases he : s = rg (k : Int)
   ·have hb' : ((bs s).toList == (bs (114 :: num (k : Int))).toList) = true := by rw [he]; exact beq_self_eq_true _
    have HE := Lib.hid he
    clear he
    go_wp2_with (refine wpList_cat (by rfl) _ _ _ _ (by rfl) _ _ (by rfl) (by rfl) (by simp only [List.length_append, List.length_cons, List.length_nil]; omega) ?_)
    refine bodyPost_ret (v := .tuple #[.int .i64 k, .bool true]) ?_ rfl ⟨⟨k, true, rfl, HK.out, ?_⟩, HB1.out⟩
    ·simp [results, Tryz.results59, go_sem]
    ·rw [if_pos rfl, HE.out]; exact rreg_rg (by omega)
   ·have hb' : ((bs s).toList == (bs (114 :: num (k : Int))).toList) = false := by
     rw [ByteArray.toList_eq, ByteArray.toList_eq, bs_data, bs_data]; exact beq_eq_false_iff_ne.2 he
    have HE := Lib.hid he
    clear he
    go_wp2_with (refine wpList_cat (by rfl) _ _ _ _ (by rfl) _ _ (by rfl) (by rfl) (by simp only [List.length_append, List.length_cons, List.length_nil]; omega) ?_)
    go_roundw
    case rel =>
     refine ⟨k + 1, by omega, by go_num, fun j hj => ?_, HB1.out⟩
     by_cases h1 : j < k
     ·exact HN.out j h1
     ·obtain rfl : j = k := by omega
      exact HE.out
    case measure => simp [intOf]; omega
  ·obtain rfl : k = 11 := by omega
   go_wp2_with fail
   refine bodyPost_ret (v := .tuple #[.int .i64 0, .bool false]) ?_ rfl ⟨⟨0, false, rfl, by unfold In64; omega, ?_⟩, HBr.out⟩
   ·simp [results, Tryz.results59, go_sem]
   ·rw [rreg_none HN.out]; simp
end Go.Proofs.YtglilddlhibogaaGreatDoor.W
