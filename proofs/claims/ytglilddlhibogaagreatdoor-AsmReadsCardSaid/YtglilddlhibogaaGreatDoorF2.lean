/- The reference's reading of places. Conditions: the tables that reading reads lie in the world. -/
import Derived.Test.YtglilddlhibogaaGreatDoorF1
import Derived.Test.YtglilddlhibogaaGreatDoorN2
namespace Go.Proofs.YtglilddlhibogaaGreatDoor.W
open Go.RowKit Go.Proofs.YtglilddlhibogaaGreatDoor.P
set_option linter.unusedSimpArgs false
set_option linter.unusedVariables false

theorem bs_cut (s : List UInt8) (a b : Nat) : (bs s).extract a b = bs ((s.take b).drop a) := by
 apply ByteArray.ext
 rw [ByteArray.data_extract]
 apply Array.ext'
 simp [bs, List.extract, List.drop_take, Array.toList_extract]
set_option maxRecDepth 100000 in
set_option maxHeartbeats 8000000 in
theorem FPlaced_any (s : List UInt8) (hs : s.length ≤ 100000) (w : World) (h : RTabs w) : Calls Tryz.prog 61 #[.string (bs s)] w (PlaceIs (rplc s) w) := by
 have H := Lib.hid h
 clear h
 have hs1 : ((bs s).size : Int) = s.length := by simp [bs, ByteArray.size]
 go_enter Tryz.func61, Tryz.ntmps61
 go_wp2_with fail
 go_loopw [10] (fun i wr => ∃ k : Nat, k ≤ 11 ∧ i = .int .i64 k ∧ (∀ j : Nat, j < k → refAt s j = none) ∧ Below w.heap.size w wr) (fun i _ => 11 - (intOf i).toNat)
 case atStart => exact ⟨0, by omega, rfl, fun j hj => by omega, Below.refl _ _⟩
 case round =>
  obtain ⟨k, hk, rfl, hno, HB⟩ := hrel
  have HN := Lib.hid hno
  have HBr := Lib.hid HB
  clear hno HB
  by_cases h : k < 11
  ·have hk1 : (k : Int) < 11 := by omega
   have hn : In64 (k : Int) := by unfold In64; omega
   have L1 := num_length hn
   have HK := Lib.hid hn
   clear hn
   go_wp2_with fail
   refine (FNum_any (k : Int) HK.out _ (H.out.later HBr.out)).mono ?_
   rintro e w1 ⟨rfl, hb⟩
   have HB1 := Lib.hid (HBr.out.trans (hb.mono HBr.out.size))
   clear hb
   have hp := Tryz.strings_HasPrefix (bs s) (bs (91 :: 114 :: num (k : Int)))
   rw [bs_data, bs_data] at hp
   have hq := fun w => Tryz.strings_HasSuffix (bs s) (bs [93]) w (by simp [bs, ByteArray.size]; omega)
   rw [bs_data, bs_data] at hq
   have hs2 : ((bs (91 :: 114 :: num (k : Int))).size : Int) = ((num (k : Int)).length : Int) + 2 := by simp [bs, ByteArray.size]; omega
   have miss : ¬ (Lib.hasPrefix s (91 :: rg (k : Int)) = true ∧ Lib.hasSuffix s [93] = true ∧ (91 :: rg (k : Int)).length + 1 < s.length) → refAt s k = none := fun hm => by unfold refAt; rw [if_neg hm]
   have hit : Lib.hasPrefix s (91 :: rg (k : Int)) = true → Lib.hasSuffix s [93] = true → (num (k : Int)).length + 3 < s.length → refAt s k = refPart ((s.take (s.length - 1)).drop ((num (k : Int)).length + 2)) := fun h1 h2 h3 => by unfold refAt; rw [if_pos ⟨h1, h2, by simp [rg]; omega⟩]; rfl
   have hrg : (91 :: rg (k : Int)) = 91 :: 114 :: num (k : Int) := rfl
   rw [hrg] at miss hit
   generalize Lib.hasPrefix s (91 :: 114 :: num (k : Int)) = pa at hp miss hit
   generalize Lib.hasSuffix s [93] = pb at hq miss hit
   have HP := Lib.hid hp
   have HQ := Lib.hid hq
   have HM := Lib.hid miss
   have HH := Lib.hid hit
   clear hp hq miss hit hrg
   go_wp2_with (refine wpList_cat (by rfl) _ _ _ _ (by rfl) _ _ (by rfl) (by rfl) (by simp only [List.length_append, List.length_cons, List.length_nil]; omega) ?_)
   refine (HP.out _).mono ?_
   rintro e w2 ⟨rfl, rfl⟩
   cases pa with
   | false =>
    have HMM := Lib.hid (HM.out (by simp))
    go_wp2_with fail
    go_roundw
    case rel =>
     refine ⟨k + 1, by omega, by go_num, fun j hj => ?_, HB1.out⟩
     by_cases h1 : j < k
     ·exact HN.out j h1
     ·obtain rfl : j = k := by omega
      exact HMM.out
    case measure => simp [intOf]; omega
   | true =>
    go_wp2_with fail
    refine (HQ.out _).mono ?_
    rintro e w3 ⟨rfl, rfl⟩
    cases pb with
    | false =>
     have HMM := Lib.hid (HM.out (by simp))
     go_wp2_with fail
     go_roundw
     case rel =>
      refine ⟨k + 1, by omega, by go_num, fun j hj => ?_, HB1.out⟩
      by_cases h1 : j < k
      ·exact HN.out j h1
      ·obtain rfl : j = k := by omega
       exact HMM.out
     case measure => simp [intOf]; omega
    | true =>
     by_cases hl : (num (k : Int)).length + 3 < s.length
     ·have hh := HH.out (by first | rfl | trivial) (by first | rfl | trivial) hl
      have hl1 : ((num (k : Int)).length : Int) + 2 + 1 < s.length := by omega
      have hne : 1 ≤ ((s.take (s.length - 1)).drop ((num (k : Int)).length + 2)).length := by simp; omega
      have hle : ((s.take (s.length - 1)).drop ((num (k : Int)).length + 2)).length ≤ s.length := by simp; omega
      go_upto_region 7 with fail
      simp only [bs_cut]
      generalize (s.take (s.length - 1)).drop ((num (k : Int)).length + 2) = m at hh hne hle ⊢
      obtain ⟨c, y, rfl⟩ : ∃ c y, m = c :: y := by cases m with | nil => simp at hne | cons c y => exact ⟨c, y, rfl⟩
      rw [refPart_cons] at hh
      have HRA := Lib.hid hh
      have hyl : y.length ≤ 100000 := by simp at hle; omega
      have e0 : ∀ h, (bs (c :: y))[0]'h = c := fun h => rfl
      have hz0 : (bs (c :: y)).size = y.length + 1 := by simp [bs, ByteArray.size]
      have hz2 : 0 < (bs (c :: y)).size := by omega
      have hz1 : (0 : Int) < ((bs (c :: y)).size : Int) := by omega
      clear hh hne hz0
      by_cases h43 : c = 43
      ·subst h43
       go_wp2_with fail
       rw [show (bs (43 :: y)).extract 1 (bs (43 :: y)).size = bs y from by rw [bs_cut]; congr 1; rw [show (bs (43 :: y)).size = (43 :: y).length from by simp [bs, ByteArray.size], List.take_length]; rfl]
       refine (FNumber_any y hyl _ (H.out.later HB1.out)).mono ?_
       rintro e w4 ⟨⟨n, b, rfl, hn, hv⟩, hb⟩
       have HB4 := Lib.hid (HB1.out.trans (hb.mono HB1.out.size))
       have HNN := Lib.hid hn
       have hra : refAt s k = if b = true then some n else none := by rw [HRA.out, if_pos (by first | rfl | trivial)]; exact hv
       have HRB := Lib.hid hra
       clear hn hv hb hra
       cases b with
       | true =>
        go_wp2_with fail
        refine bodyPost_ret (v := .tuple #[.int .i64 k, .int .i64 n, .bool true]) ?_ rfl ⟨⟨k, n, true, rfl, HK.out, HNN.out, ?_⟩, HB4.out⟩
        ·simp [results, Tryz.results61, go_sem]
        ·rw [if_pos rfl]; exact refAt_some (by omega) (by rw [HRB.out]; first | rfl | (rw [if_pos (by first | rfl | trivial)]) | simp)
       | false =>
        go_wp2_with fail
        go_roundw
        case rel =>
         refine ⟨k + 1, by omega, by go_num, fun j hj => ?_, HB4.out⟩
         by_cases h1 : j < k
         ·exact HN.out j h1
         ·obtain rfl : j = k := by omega
          rw [HRB.out]; simp
        case measure => simp [intOf]; omega
      ·by_cases h45 : c = 45
       ·subst h45
        go_wp2_with fail
        have hyl2 : (45 :: y).length ≤ 100000 := by simp at hle ⊢; omega
        refine (FNumber_any (45 :: y) hyl2 _ (H.out.later HB1.out)).mono ?_
        rintro e w4 ⟨⟨n, b, rfl, hn, hv⟩, hb⟩
        have HB4 := Lib.hid (HB1.out.trans (hb.mono HB1.out.size))
        have HNN := Lib.hid hn
        have hra : refAt s k = if b = true then some n else none := by rw [HRA.out]; first | (rw [if_pos (by first | rfl | trivial)]; exact hv) | (rw [if_neg (by decide), if_pos (by first | rfl | trivial)]; exact hv)
        have HRB := Lib.hid hra
        clear hn hv hb hra
        cases b with
        | true =>
         go_wp2_with fail
         refine bodyPost_ret (v := .tuple #[.int .i64 k, .int .i64 n, .bool true]) ?_ rfl ⟨⟨k, n, true, rfl, HK.out, HNN.out, ?_⟩, HB4.out⟩
         ·simp [results, Tryz.results61, go_sem]
         ·rw [if_pos rfl]; exact refAt_some (by omega) (by rw [HRB.out]; first | rfl | (rw [if_pos (by first | rfl | trivial)]) | simp)
        | false =>
         go_wp2_with fail
         go_roundw
         case rel =>
          refine ⟨k + 1, by omega, by go_num, fun j hj => ?_, HB4.out⟩
          by_cases h1 : j < k
          ·exact HN.out j h1
          ·obtain rfl : j = k := by omega
           rw [HRB.out]; simp
         case measure => simp [intOf]; omega
       ·have g43 : ((c.toNat : Int) == 43) = false := by
         rw [beq_eq_false_iff_ne]; intro h; exact h43 (UInt8.toNat_inj.1 (by simpa using Int.ofNat.inj h))
        have g45 : ((c.toNat : Int) == 45) = false := by
         rw [beq_eq_false_iff_ne]; intro h; exact h45 (UInt8.toNat_inj.1 (by simpa using Int.ofNat.inj h))
        have HMM : Hid (refAt s k = none) := Lib.hid (by rw [HRA.out, if_neg h43, if_neg h45])
        go_wp2_with fail
        go_roundw
        case rel =>
         refine ⟨k + 1, by omega, by go_num, fun j hj => ?_, HB1.out⟩
         by_cases h1 : j < k
         ·exact HN.out j h1
         ·obtain rfl : j = k := by omega
          exact HMM.out
        case measure => simp [intOf]; omega
     ·have HMM := Lib.hid (HM.out (by simp [rg]; omega))
      have hl1 : ¬ ((num (k : Int)).length : Int) + 2 + 1 < s.length := by omega
      go_wp2_with fail
      go_roundw
      case rel =>
       refine ⟨k + 1, by omega, by go_num, fun j hj => ?_, HB1.out⟩
       by_cases h1 : j < k
       ·exact HN.out j h1
       ·obtain rfl : j = k := by omega
        exact HMM.out
      case measure => simp [intOf]; omega
  ·obtain rfl : k = 11 := by omega
   go_wp2_with fail
   refine bodyPost_ret (v := .tuple #[.int .i64 0, .int .i64 0, .bool false]) ?_ rfl ⟨⟨0, 0, false, rfl, by unfold In64; omega, by unfold In64; omega, ?_⟩, HBr.out⟩
   ·simp [results, Tryz.results61, go_sem]
   ·rw [refAt_none HN.out]; simp
end Go.Proofs.YtglilddlhibogaaGreatDoor.W
