/- Numbers and registers read out of texts: by contract. Conditions: the texts are short; the tables of powers of ten and of names, and strconv's two errors, lie in the world. -/
import Derived.Test.YtglilddlhibogaaGreatDoorReadShelf
import Derived.Test.YtglilddlhibogaaGreatDoorPureRead
import Derived.Test.YtglilddlhibogaaGreatDoorWalkOp
import Derived.Lib.ParseIntBTie
import Derived.Lib.SmallJoins
import Derived.Lib.QuietBelow
namespace Go.Proofs.YtglilddlhibogaaGreatDoor.W
open Go.RowKit Go.Proofs.YtglilddlhibogaaGreatDoor.P
set_option linter.unusedSimpArgs false
set_option linter.unusedVariables false
open Go.Sort (grow)

/-- the tables that reading reads -/
structure RTabs (w : World) : Prop where
 pow : Lib.TabIs Tryz.prog w "internal/strconv.uint64pow10" .u64 Lib.pow10Tab
 names : ∀ k, k < 29 → w.cell? ⟨2, k, none⟩ = some (.string (bs (nm k)))
 calls : ∀ k, k < 4 → w.cell? ⟨3, k, none⟩ = some (.string (bs (cl k)))
 syn : ∃ t p, w.cell? ⟨9, 0, none⟩ = some (.iface t p)
 rng : ∃ t p, w.cell? ⟨10, 0, none⟩ = some (.iface t p)
theorem ngPow : Tryz.prog.globalNamed "internal/strconv.uint64pow10" = some 11 := by kernel_rfl
theorem RTabs.later {w w' : World} (h : RTabs w) (hb : Below w.heap.size w w') : RTabs w' :=
 ⟨Joins.tab_stays ngPow h.pow hb (Nat.le_refl _), fun k h1 => (hb.cell (block_lt_of_cell (h.names k h1))).trans (h.names k h1), fun k h1 => (hb.cell (block_lt_of_cell (h.calls k h1))).trans (h.calls k h1),
  by obtain ⟨t, p, e⟩ := h.syn; exact ⟨t, p, (hb.cell (block_lt_of_cell e)).trans e⟩, by obtain ⟨t, p, e⟩ := h.rng; exact ⟨t, p, (hb.cell (block_lt_of_cell e)).trans e⟩⟩
theorem nbelow_drewgrow (w : World) (k : Nat) (os : Array Obj) : Below w.heap.size w (grow (w.drewN k) os) := below_regrown w (w.drawn + k) os
theorem NFmt_any (n : Int) (hn : In64 n) (w : World) (h : RTabs w) : Calls Tryz.prog 96 #[.int .i64 n, .int .i64 10] w fun e w' => e = .returned (.string (bs (num n))) ∧ Below w.heap.size w w' :=
 (Tryz.strconv_FormatInt_10 n hn.1 hn.2 w h.pow).mono fun e w' ⟨he, k, os, hw⟩ => ⟨he, hw ▸ nbelow_drewgrow w k os⟩
/-- a number or a register, and whether the text is one -/
def NumIs (o : Option Int) (w : World) (e : Ending) (w' : World) : Prop := (∃ m b, e = .returned (.tuple #[.int .i64 m, .bool b]) ∧ In64 m ∧ o = if b = true then some m else none) ∧ Below w.heap.size w w'
/-- strconv.ParseInt at any text -/
theorem NParse_any (s : List UInt8) (hs : s.length ≤ 100000) (w : World) (h : RTabs w) : Calls Tryz.prog 91 #[.string (bs s), .int .i64 10, .int .i64 64] w fun e w' =>
  ((∃ v, Lib.parseIntB 64 s = .ok v ∧ In64 v ∧ e = .returned (.tuple #[.int .i64 v, .nilIface])) ∨ ((∀ v, Lib.parseIntB 64 s ≠ .ok v) ∧ ∃ m t p, In64 m ∧ e = .returned (.tuple #[.int .i64 m, .iface t p]))) ∧ Below w.heap.size w w' := by
 have hsz : (bs s).size = s.length := by simp [bs, ByteArray.size]
 have hd : (bs s).data.toList = s := bs_data s
 rcases hp : Lib.parseIntB 64 s with v | _ | _
 ·refine (Tryz.strconv_ParseInt_10_at64_ok (bs s) (by omega) v (by rw [hd]; exact hp) w).mono fun e w' ⟨he, hw⟩ => ⟨.inl ⟨v, rfl, ?_, he⟩, ?_⟩
  ·have := Lib.parseIntB_bounds hp
   unfold In64; simp at this; omega
  ·rcases hw with rfl | ⟨t, rfl⟩
   ·exact Below.refl _ _
   ·exact Joins.below_bytesWorld _ _ _ _ (Nat.le_refl _)
 ·obtain ⟨t, p, e⟩ := h.syn
  refine (Tryz.strconv_ParseInt_10_at64_syntax (bs s) (by omega) (by rw [hd, hp]; exact ⟨fun v hv => (by cases hv), fun hv => (by cases hv)⟩) _ w e (.inr ⟨t, p, rfl⟩)).mono fun e w' ⟨N, he, h1, h2, hb⟩ => ⟨.inr ⟨fun v hv => (by cases hv), 0, _, _, (by unfold In64; omega), he⟩, hb⟩
 ·obtain ⟨t, p, e⟩ := h.rng
  refine (Tryz.strconv_ParseInt_10_at64_range (bs s) (by omega) (by rw [hd]; exact hp) _ w e (.inr ⟨t, p, rfl⟩)).mono fun e w' ⟨N, he, h1, h2, hb⟩ => ⟨.inr ⟨fun v hv => (by cases hv), _, _, _, ?_, he⟩, hb⟩
  unfold Lib.intSat In64
  split <;> simp
set_option maxRecDepth 100000 in
set_option maxHeartbeats 2000000 in
/-- a number, and whether the text is its numeral -/
theorem NNumber_any (s : List UInt8) (hs : s.length ≤ 100000) (w : World) (h : RTabs w) : Calls Tryz.prog 66 #[.string (bs s)] w (NumIs (rnum s) w) := by
 have H := Lib.hid h
 clear h
 go_enter Tryz.func66, Tryz.ntmps66
 go_wp2_with fail
 refine (NParse_any s hs _ H.out).mono ?_
 rintro e w1 ⟨h, hb⟩
 have HB := Lib.hid hb
 clear hb
 rcases h with ⟨v, hp, hv, rfl⟩ | ⟨hp, m, t, p, hm, rfl⟩
 ·have HV := Lib.hid hv
  have HP := Lib.hid hp
  clear hv hp
  go_wp2_with fail
  refine (NFmt_any v HV.out _ (H.out.later HB.out)).mono ?_
  rintro e w2 ⟨rfl, hb⟩
  have HB2 := Lib.hid (HB.out.trans (hb.mono HB.out.size))
  clear hb
  by_cases he : num v = s
  ·subst he
   go_wp2_with fail
   refine bodyPost_ret (v := .tuple #[.int .i64 v, .bool true]) ?_ rfl ⟨⟨v, true, rfl, HV.out, ?_⟩, HB2.out⟩
   ·simp [results, Tryz.results66, go_sem]
   ·rw [if_pos rfl]; exact rnum_num HV.out
  ·have hb' : ¬ (bs (num v)).toList = (bs s).toList := by
    rw [ByteArray.toList_eq, ByteArray.toList_eq, bs_data, bs_data]; exact he
   have HE := Lib.hid he
   clear he
   go_wp2_with fail
   refine bodyPost_ret (v := .tuple #[.int .i64 v, .bool false]) ?_ rfl ⟨⟨v, false, rfl, HV.out, ?_⟩, HB2.out⟩
   ·simp [results, Tryz.results66, go_sem, *]
   ·unfold rnum; rw [HP.out]; simp only; rw [if_neg HE.out]; simp
 ·have HM := Lib.hid hm
  have HP := Lib.hid hp
  clear hm hp
  go_wp2_with fail
  refine bodyPost_ret (v := .tuple #[.int .i64 m, .bool false]) ?_ rfl ⟨⟨m, false, rfl, HM.out, ?_⟩, HB.out⟩
  ·simp [results, Tryz.results66, go_sem]
  ·unfold rnum
   rcases hc : Lib.parseIntB 64 s with v | _ | _
   ·exact absurd hc (HP.out v)
   ·simp
   ·simp
theorem ncut (s : List UInt8) : (Lib.hasPrefix s [114] = true ∧ ∃ r, s = 114 :: r ∧ Lib.trimPrefix s [114] = r) ∨ (Lib.hasPrefix s [114] = false ∧ Lib.trimPrefix s [114] = s ∧ rreg s = none) := by
 cases s with
 | nil => exact .inr ⟨by simp [Lib.hasPrefix], by simp [Lib.trimPrefix, Lib.hasPrefix], rfl⟩
 | cons c r =>
  by_cases h : c = 114
  ·subst h
   exact .inl ⟨by simp [Lib.hasPrefix, List.isPrefixOf], r, rfl, by simp [Lib.trimPrefix, Lib.hasPrefix, List.isPrefixOf]⟩
  ·exact .inr ⟨by simp [Lib.hasPrefix, List.isPrefixOf, Ne.symm h], by simp [Lib.trimPrefix, Lib.hasPrefix, List.isPrefixOf, Ne.symm h], by simp [rreg, h]⟩
set_option maxRecDepth 100000 in
set_option maxHeartbeats 2000000 in
/-- a register, and whether the text is one -/
theorem NRegister_any (s : List UInt8) (hs : s.length ≤ 100000) (w : World) (h : RTabs w) : Calls Tryz.prog 67 #[.string (bs s)] w (NumIs (rreg s) w) := by
 have H := Lib.hid h
 clear h
 have hcut := Tryz.strings_CutPrefix (bs s) (bs [114])
 rw [bs_data, bs_data] at hcut
 have HCUT := Lib.hid hcut
 clear hcut
 go_enter Tryz.func67, Tryz.ntmps67
 go_wp2_with fail
 refine (HCUT.out _).mono ?_
 rintro e w1 ⟨rfl, rfl⟩
 rcases ncut s with ⟨hp, r, hr, ht⟩ | ⟨hp, ht, hn⟩
 ·rw [hp, ht]
  have hrl : r.length ≤ 100000 := by have := congrArg List.length hr; simp at this; omega
  have HR := Lib.hid hr
  clear hr hp ht
  go_wp2_with fail
  refine (NNumber_any r hrl _ H.out).mono ?_
  rintro e w2 ⟨⟨m, b, rfl, hm, hv⟩, hb⟩
  have HB := Lib.hid hb
  have HM := Lib.hid hm
  have HV := Lib.hid hv
  clear hb hm hv
  have fin : ∀ ok : Bool, ((b = true ∧ 0 ≤ m ∧ m < 11) ↔ ok = true) → rreg s = if ok = true then some m else none := by
   intro ok hok
   have e1 : rreg s = regIn (rnum r) := by rw [HR.out, rreg_r]
   rw [e1, HV.out]
   cases b with
   | false => simp at hok; simp [hok, regIn]
   | true =>
    simp only [true_and, if_true] at hok ⊢
    rw [regIn_some]
    by_cases hh : 0 ≤ m ∧ m < 11
    ·rw [if_pos hh, if_pos (hok.1 hh)]
    ·rw [if_neg hh, if_neg (fun h => hh (hok.2 h))]
  have FIN := Lib.hid fin
  clear fin
  cases b with
  | false =>
   go_wp2_with fail
   refine bodyPost_ret (v := .tuple #[.int .i64 m, .bool false]) ?_ rfl ⟨⟨m, false, rfl, HM.out, FIN.out false (by simp)⟩, HB.out⟩
   simp [results, Tryz.results67, go_sem]
  | true =>
   by_cases h0 : 0 ≤ m
   ·by_cases h1 : m < 11
    ·go_wp2_with fail
     refine bodyPost_ret (v := .tuple #[.int .i64 m, .bool true]) ?_ rfl ⟨⟨m, true, rfl, HM.out, FIN.out true (by simp [h0, h1])⟩, HB.out⟩
     simp [results, Tryz.results67, go_sem, h0, h1]
    ·go_wp2_with fail
     refine bodyPost_ret (v := .tuple #[.int .i64 m, .bool false]) ?_ rfl ⟨⟨m, false, rfl, HM.out, FIN.out false (by simp; omega)⟩, HB.out⟩
     simp [results, Tryz.results67, go_sem, h0, h1]
   ·go_wp2_with fail
    refine bodyPost_ret (v := .tuple #[.int .i64 m, .bool false]) ?_ rfl ⟨⟨m, false, rfl, HM.out, FIN.out false (by simp; omega)⟩, HB.out⟩
    simp [results, Tryz.results67, go_sem, h0]
 ·rw [hp, ht]
  have HN := Lib.hid hn
  clear hn hp ht
  go_wp2_with fail
  refine (NNumber_any s hs _ H.out).mono ?_
  rintro e w2 ⟨⟨m, b, rfl, hm, hv⟩, hb⟩
  have HB := Lib.hid hb
  have HM := Lib.hid hm
  clear hb hm hv
  go_wp2_with fail
  refine bodyPost_ret (v := .tuple #[.int .i64 m, .bool false]) ?_ rfl ⟨⟨m, false, rfl, HM.out, by rw [HN.out]; simp⟩, HB.out⟩
  simp [results, Tryz.results67, go_sem]
end Go.Proofs.YtglilddlhibogaaGreatDoor.W
