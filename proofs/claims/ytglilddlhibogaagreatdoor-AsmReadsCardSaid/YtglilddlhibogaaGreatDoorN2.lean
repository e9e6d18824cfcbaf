/- Places and second operands read out of texts: by contract. Conditions: as for numbers; strings.IndexAny's contract at '+-'. -/
import Derived.Test.YtglilddlhibogaaGreatDoorN1
import Derived.Test.YtglilddlhibogaaGreatDoorImg
import Derived.Deep.CutBlock
import Derived.Deep.DeepCutAuto
import Derived.Deep.Light
namespace Go.Proofs.YtglilddlhibogaaGreatDoor.W
open Go.RowKit Go.Proofs.YtglilddlhibogaaGreatDoor.P
set_option linter.unusedSimpArgs false
set_option linter.unusedVariables false

/-- strings.IndexAny at '+-', whatever the text -/
def IdxAny : Prop := ∀ (s : List UInt8) (w : World), s.length ≤ 100000 → Calls Tryz.prog 99 #[.string (bs s), .string (bs [43, 45])] w fun e w' => e = .returned (.int .i64 (Lib.indexAny s [43, 45])) ∧ Below w.heap.size w w'
def PlaceIs (o : Option (Int × Int)) (w : World) (e : Ending) (w' : World) : Prop := (∃ r n b, e = .returned (.tuple #[.int .i64 r, .int .i64 n, .bool b]) ∧ In64 r ∧ In64 n ∧ o = if b = true then some (r, n) else none) ∧ Below w.heap.size w w'
theorem in64_0' : In64 0 := by unfold In64; omega
set_option maxRecDepth 100000 in
set_option maxHeartbeats 4000000 in
theorem NPlaced_any (HX : IdxAny) (s : List UInt8) (hs : s.length ≤ 100000) (w : World) (h : RTabs w) : Calls Tryz.prog 69 #[.string (bs s)] w (PlaceIs (rplc s) w) := by
 have H := Lib.hid h
 clear h
 have hcut := Tryz.strings_CutPrefix (bs s) (bs [91])
 rw [bs_data, bs_data] at hcut
 have HCUT := Lib.hid hcut
 have l1 := trimPrefix_le s [91]
 have l2 := trimSuffix_le (Lib.trimPrefix s [91]) [93]
 have hcut2 := fun w => Tryz.strings_CutSuffix (bs (Lib.trimPrefix s [91])) (bs [93]) w (by simp [bs, ByteArray.size]; omega)
 rw [bs_data, bs_data] at hcut2
 have HCUT2 := Lib.hid hcut2
 have hR : rplc s = if Lib.hasPrefix s [91] = true ∧ Lib.hasSuffix (Lib.trimPrefix s [91]) [93] = true then rinner (Lib.trimSuffix (Lib.trimPrefix s [91]) [93]) else none := rfl
 obtain ⟨R, hR0⟩ : ∃ R, rplc s = R := ⟨_, rfl⟩
 rw [hR0] at hR ⊢
 have hx := fun w => HX (Lib.trimSuffix (Lib.trimPrefix s [91]) [93]) w (by omega)
 have hil := indexAny_le [43, 45] (Lib.trimSuffix (Lib.trimPrefix s [91]) [93])
 have hreg := fun w hw => NRegister_any ((Lib.trimSuffix (Lib.trimPrefix s [91]) [93]).take (Lib.indexAny (Lib.trimSuffix (Lib.trimPrefix s [91]) [93]) [43, 45]).toNat) (by simp; omega) w hw
 have hnum := fun w hw => NNumber_any (Lib.trimPrefix ((Lib.trimSuffix (Lib.trimPrefix s [91]) [93]).drop (Lib.indexAny (Lib.trimSuffix (Lib.trimPrefix s [91]) [93]) [43, 45]).toNat) [43]) (Nat.le_trans (trimPrefix_le _ _) (by simp; omega)) w hw
 generalize Lib.hasPrefix s [91] = pa at *
 generalize Lib.hasSuffix (Lib.trimPrefix s [91]) [93] = pb at *
 generalize Lib.trimSuffix (Lib.trimPrefix s [91]) [93] = s2 at *
 generalize Lib.trimPrefix s [91] = s1 at *
 have HR := Lib.hid hR
 have HIX := Lib.hid hx
 have HREG := Lib.hid hreg
 have HNUM := Lib.hid hnum
 clear hcut hcut2 hR hR0 hx hreg hnum HX
 obtain ⟨ki, hki⟩ : ∃ k, Lib.indexAny s2 [43, 45] = k := ⟨_, rfl⟩
 rw [hki] at hil HREG HNUM HIX
 have HK := Lib.hid hki
 clear hki
 have none_ : ∀ b' : Bool, b' = false → ¬ (pa = true ∧ pb = true ∧ 0 ≤ ki) → R = if b' = true then some ((0 : Int), (0 : Int)) else none := by
  intro b' hb' hn
  subst hb'
  rw [HR.out]
  simp only [Bool.false_eq_true, if_false]
  by_cases hp : pa = true ∧ pb = true
  ·rw [if_pos hp]; unfold rinner; rw [HK.out, if_pos (Int.not_le.1 fun h => hn ⟨hp.1, hp.2, h⟩)]
  ·rw [if_neg hp]
 have HNO := Lib.hid none_
 clear none_
 go_enter Tryz.func69, Tryz.ntmps69
 go_wp2_with fail
 refine (HCUT.out _).mono ?_
 rintro e w1 ⟨rfl, rfl⟩
 go_wp2_with fail
 refine (HCUT2.out _).mono ?_
 rintro e w1 ⟨rfl, rfl⟩
 go_wp2_with fail
 refine (HIX.out _).mono ?_
 rintro e w2 ⟨rfl, hb⟩
 have HB := Lib.hid hb
 clear hb
 by_cases hgood : pa = true ∧ pb = true ∧ 0 ≤ ki
 ·obtain ⟨rfl, rfl, k0⟩ := hgood
  have hr : R = rpair (rreg (s2.take ki.toNat)) (rnum (Lib.trimPrefix (s2.drop ki.toNat) [43])) := by
   rw [HR.out, if_pos ⟨rfl, rfl⟩]; unfold rinner; rw [HK.out, if_neg (by omega)]
  obtain ⟨k, rfl⟩ := Int.eq_ofNat_of_zero_le k0
  have kl : k ≤ s2.length := by omega
  rw [Int.toNat_natCast] at hr HREG HNUM
  have HRR := Lib.hid hr
  clear hr k0
  have ksz : (k : Int) ≤ (bs s2).size := by simp [bs, ByteArray.size]; omega
  go_wp2_with fail
  rw [bs_take]
  refine (HREG.out _ (H.out.later HB.out)).mono ?_
  rintro e w3 ⟨⟨r, br, rfl, hr, hrv⟩, hb⟩
  have HB3 := Lib.hid (HB.out.trans (hb.mono HB.out.size))
  have HRR' := Lib.hid hr
  have HRV := Lib.hid hrv
  clear hb hr hrv
  go_wp2_with fail
  rw [bs_drop']
  have htr := Tryz.strings_TrimPrefix (bs (s2.drop k)) (bs [43])
  rw [bs_data, bs_data] at htr
  have HTR := Lib.hid htr
  clear htr
  refine (HTR.out _).mono ?_
  rintro e w4 ⟨rfl, rfl⟩
  go_wp2_with fail
  refine (HNUM.out _ (H.out.later HB3.out)).mono ?_
  rintro e w5 ⟨⟨n, bn, rfl, hn, hnv⟩, hb⟩
  have HB5 := Lib.hid (HB3.out.trans (hb.mono HB3.out.size))
  have HN := Lib.hid hn
  have hres : R = if (br && bn) = true then some (r, n) else none := by rw [HRR.out, HRV.out, hnv, rpair_if]
  have HRES := Lib.hid hres
  clear hb hn hnv hres HRR HRV HREG HNUM HIX HCUT HCUT2 HR HNO HTR
  cases br with
  | false =>
   go_wp2_with fail
   refine bodyPost_ret (v := .tuple #[.int .i64 r, .int .i64 n, .bool false]) ?_ rfl ⟨⟨r, n, false, rfl, HRR'.out, HN.out, by rw [HRES.out]; simp⟩, HB5.out⟩
   simp [results, Tryz.results69, go_sem]
  | true =>
   go_wp2_with fail
   refine bodyPost_ret (v := .tuple #[.int .i64 r, .int .i64 n, .bool bn]) ?_ rfl ⟨⟨r, n, bn, rfl, HRR'.out, HN.out, by rw [HRES.out]; simp⟩, HB5.out⟩
   simp [results, Tryz.results69, go_sem]
 ·have hres := HNO.out false rfl hgood
  have HRES := Lib.hid hres
  clear hres HREG HNUM HIX HCUT HCUT2 HR HNO
  have fin : ∀ e, e = .returned (.tuple #[.int .i64 0, .int .i64 0, .bool false]) → PlaceIs R w1 e w2 := fun e he => ⟨⟨0, 0, false, he, in64_0', in64_0', HRES.out⟩, HB.out⟩
  have HFIN := Lib.hid fin
  clear fin
  cases pa with
  | false =>
   go_wp2_with fail
   refine bodyPost_ret (v := .tuple #[.int .i64 0, .int .i64 0, .bool false]) ?_ rfl (HFIN.out _ rfl)
   simp [results, Tryz.results69, go_sem]
  | true =>
   cases pb with
   | false =>
    go_wp2_with fail
    refine bodyPost_ret (v := .tuple #[.int .i64 0, .int .i64 0, .bool false]) ?_ rfl (HFIN.out _ rfl)
    simp [results, Tryz.results69, go_sem]
   | true =>
    have hk : ki < 0 := by simp at hgood; exact hgood
    go_wp2_with fail
    refine bodyPost_ret (v := .tuple #[.int .i64 0, .int .i64 0, .bool false]) ?_ rfl (HFIN.out _ rfl)
    simp [results, Tryz.results69, go_sem]
end Go.Proofs.YtglilddlhibogaaGreatDoor.W
