/- strings.IndexAny at '+-', whatever the text: the third of its roads: at most eight bytes, not all ASCII. No conditions. -/
import Derived.Test.YtglilddlhibogaaGreatDoorN5
import Derived.Test.YtglilddlhibogaaGreatDoorPureWords
import Derived.Laws.RangeAny
import Derived.Lib.OthersKept
import Derived.Scope
import Derived.Deep.QuietTactic
import Derived.BigQuiet
import Derived.Lib.QuoteLoop
import Derived.Lib.RuneBytes
import Derived.Lib.RuneCountTail
namespace Go.Proofs.YtglilddlhibogaaGreatDoor.W
open Go.RowKit Go.Proofs.YtglilddlhibogaaGreatDoor.P
set_option linter.unusedSimpArgs false
set_option linter.unusedVariables false

theorem NRune_low (r : Int) (h0 : 0 ≤ r) (h1 : r < 128) (w : World) : Calls Tryz.prog 136 #[.string (bs [43, 45]), .int .i32 r] w fun e w' => e = .returned (.int .i64 (Lib.indexByte [43, 45] r.toNat.toUInt8)) ∧ w = w' := by
 have K := Tryz.strings_IndexRune_ascii (bs [43, 45]) r w h0 h1
 rw [bs_data] at K
 exact K.mono fun e w' ⟨he, hw⟩ => ⟨he, hw.symm⟩
set_option maxRecDepth 100000 in
set_option maxHeartbeats 4000000 in
theorem NRune_bad (w : World) : Calls Tryz.prog 136 #[.string (bs [43, 45]), .int .i32 65533] w fun e w' => e = .returned (.int .i64 (-1)) ∧ Below w.heap.size w w' := by
 go_enter Tryz.func136, Tryz.ntmps136
 go_wp2_with fail
 go_loopw [] (fun wr => ∃ i : Nat, i ≤ 2 ∧ wr.heap[w.heap.size]? = some (.stringIter (bs [43, 45]) i) ∧ Below w.heap.size w wr) (fun wr => 2 - wr.iterPos w.heap.size)
 case atStart => exact ⟨0, by omega, World.iter_heap _ _ _, (Below.refl _ _).alloc (Nat.le_refl _) _⟩
 case round =>
  obtain ⟨i, hi, hk, hb⟩ := hrel
  have hsz : (bs [43, 45]).size = 2 := rfl
  have hmu : wr.iterPos w.heap.size = i := by simp [World.iterPos, hk]
  by_cases h : i < 2
  ·have hx : ((bs [43, 45])[i]'h).toNat < 128 ∧ ((bs [43, 45])[i]'h).toNat ≠ 65533 := by
    have d0 : ((bs [43, 45])[0]'(by decide)).toNat < 128 ∧ ((bs [43, 45])[0]'(by decide)).toNat ≠ 65533 := by decide
    have d1 : ((bs [43, 45])[1]'(by decide)).toNat < 128 ∧ ((bs [43, 45])[1]'(by decide)).toNat ≠ 65533 := by decide
    rcases (by omega : i = 0 ∨ i = 1) with rfl | rfl
    ·exact d0
    ·exact d1
   have hnx := fun ty => Lib.run_next_ascii_at (P := Tryz.prog) wr w.heap.size (bs [43, 45]) i ty hk h hx.1
   have hk1 := Lib.iterAt_heap wr w.heap.size (bs [43, 45]) i (i + 1) hk
   have hb1 : Below w.heap.size w (wr.iterAt w.heap.size (bs [43, 45]) (i + 1)) := Lib.below_iterAt hb (Nat.le_refl _) _ _
   have hne : ((((bs [43, 45])[i]'h).toNat : Int) == 65533) = false := beq_eq_false_iff_ne.2 (by have := hx.2; omega)
   generalize wr.iterAt w.heap.size (bs [43, 45]) (i + 1) = W1 at hnx hk1 hb1
   generalize ((bs [43, 45])[i]'h).toNat = x at hnx hne
   have HK := Lib.hid hk1
   clear hk hk1 hx
   go_wp2_with fail
   go_roundw
   case rel => exact ⟨i + 1, by omega, HK.out, hb1⟩
   case measure => rw [hmu, show W1.iterPos w.heap.size = i + 1 by simp [World.iterPos, HK.out]]; omega
  ·have hnx := fun ty => Lib.run_next_end_at (P := Tryz.prog) wr w.heap.size (bs [43, 45]) i ty hk (by omega)
   go_wp2_with fail
   go_ret
   exact ⟨rfl, hb⟩
theorem NValid_any (r : Nat) (hv : (r : Int) < 55296 ∨ (57343 < (r : Int) ∧ (r : Int) ≤ 1114111)) (w : World) : Calls Tryz.prog 171 #[.int .i32 r] w fun e w' => e = .returned (.bool true) ∧ w = w' := by
 have h0 : (0 : Int) ≤ r := by omega
 by_cases h : (r : Int) < 55296
 ·go_enter Tryz.func171, Tryz.ntmps171
  go_wp2_with fail
  go_ret
  exact ⟨rfl, rfl⟩
 ·have h1 : 57343 < (r : Int) := by omega
  have h2 : (r : Int) ≤ 1114111 := by omega
  go_enter Tryz.func171, Tryz.ntmps171
  go_wp2_with fail
  go_ret
  exact ⟨rfl, rfl⟩
theorem enc_high (r : Nat) (h0 : 128 ≤ r) (hv : (r : Int) < 55296 ∨ (57343 < (r : Int) ∧ (r : Int) ≤ 1114111)) : (∃ a b : UInt8, Utf8.encode r = ⟨#[a, b]⟩ ∧ 128 ≤ b.toNat) ∨ (3 ≤ (Utf8.encode r).size ∧ (Utf8.encode r).size ≤ 4) := by
 have hval : Utf8.valid (r : Int) = true := by rw [validRune_eq]; unfold validRune; simp; omega
 have hc : (if Utf8.valid (r : Int) = true then (r : Int).toNat else Utf8.runeError) = r := by rw [if_pos hval]; simp
 unfold Utf8.encode
 simp only [hc]
 rw [if_neg (by omega)]
 by_cases h1 : r < 2048
 ·rw [if_pos h1]
  refine .inl ⟨_, _, rfl, ?_⟩
  simp [UInt8.toNat_ofNat']; omega
 ·rw [if_neg h1]
  right
  split <;> simp [ByteArray.size]
theorem NIdxEmpty (s : ByteArray) (h : s.data.toList = []) (c : Int) (w : World) : Calls Tryz.prog 170 #[.string s, .int .u8 c] w fun e w' => e = .returned (.int .i64 (-1)) ∧ w' = w := by
 have K := Tryz.strings_IndexByte s c w
 rw [h] at K
 exact K
set_option maxRecDepth 100000 in
set_option maxHeartbeats 1000000 in
theorem NRune_two (r : Nat) (h0 : 128 ≤ r) (hb : r ≠ 65533) (hv : (r : Int) < 55296 ∨ (57343 < (r : Int) ∧ (r : Int) ≤ 1114111)) (a b : UInt8) (he : Utf8.encode r = ⟨#[a, b]⟩) (hb1 : 128 ≤ b.toNat) (w : World) : Calls Tryz.prog 136 #[.string (bs [43, 45]), .int .i32 r] w fun e w' => e = .returned (.int .i64 (-1)) ∧ Below w.heap.size w w' := by
 have h1 : ¬ ((r : Int) < 128) := by omega
 have h2 : ((r : Int) == 65533) = false := beq_eq_false_iff_ne.2 (by omega)
 have hs2 : ((bs [43, 45]).size : Int) = 2 := rfl
 have hne' : ((((bs [43, 45])[1]'(by decide)).toNat : Int) != (((ByteArray.mk #[a, b])[1]'(by simp [ByteArray.size])).toNat : Int)) = true := by
  show ((45 : Int) != (b.toNat : Int)) = true
  simp; omega
 have hz : ((ByteArray.mk #[a, b]).size : Int) = 2 := rfl
 have hwr : IntKind.i64.wrap 2 = 2 := by rfl
 go_enter Tryz.func136, Tryz.ntmps136
 go_wp2_with fail
 refine (NValid_any r hv w).mono ?_
 rintro e w1 ⟨rfl, rfl⟩
 go_wp2_with fail
 refine wp_scope_straight ?_
 go_wp2_with fail
 refine wp_loop_rounds 1 ?_
 rw [rounds_succ]
 go_wp2_with fail
 refine wp_scope_straight ?_
 go_wp2_with fail
 go_quiet (fail)
 have HBQ := Lib.hid (show Below w.heap.size w (w.drewN nq) from ⟨rfl, rfl, rfl, Nat.le_refl _, fun _ _ => rfl⟩)
 generalize w.drewN nq = w1 at HBQ ⊢
 go_wp2_with fail
 go_quiet ((go_at_call 170; exact Calls.quiet_of_same (NIdxEmpty _ (by rfl) _ _)))
 go_wp2_with fail
 rw [Exit.noGoto_ret]
 go_wp2_with fail
 rw [Exit.noGoto_ret]
 go_ret
 exact ⟨rfl, HBQ.out.trans ⟨rfl, rfl, rfl, Nat.le_refl _, fun _ _ => rfl⟩⟩
set_option maxRecDepth 100000 in
set_option maxHeartbeats 1000000 in
theorem NRune_more (r : Nat) (h0 : 128 ≤ r) (hb : r ≠ 65533) (hv : (r : Int) < 55296 ∨ (57343 < (r : Int) ∧ (r : Int) ≤ 1114111)) (he : (Utf8.encode r).size = 3 ∨ (Utf8.encode r).size = 4) (w : World) : Calls Tryz.prog 136 #[.string (bs [43, 45]), .int .i32 r] w fun e w' => e = .returned (.int .i64 (-1)) ∧ Below w.heap.size w w' := by
 have h1 : ¬ ((r : Int) < 128) := by omega
 have h2 : ((r : Int) == 65533) = false := beq_eq_false_iff_ne.2 (by omega)
 have hs2 : ((bs [43, 45]).size : Int) = 2 := rfl
 rcases he with he | he
 ·have hz : (((Utf8.encode r).size : Nat) : Int) = 3 := by omega
  clear he
  go_enter Tryz.func136, Tryz.ntmps136
  go_wp2_with fail
  refine (NValid_any r hv w).mono ?_
  rintro e w1 ⟨rfl, rfl⟩
  go_wp2_with fail
  refine wp_scope_straight ?_
  go_wp2_with fail
  refine wp_loop_rounds 1 ?_
  rw [rounds_succ]
  go_wp2_with fail
  rw [Exit.noGoto_ret]
  go_ret
  exact ⟨rfl, Below.refl _ _⟩
 ·have hz : (((Utf8.encode r).size : Nat) : Int) = 4 := by omega
  clear he
  go_enter Tryz.func136, Tryz.ntmps136
  go_wp2_with fail
  refine (NValid_any r hv w).mono ?_
  rintro e w1 ⟨rfl, rfl⟩
  go_wp2_with fail
  refine wp_scope_straight ?_
  go_wp2_with fail
  refine wp_loop_rounds 1 ?_
  rw [rounds_succ]
  go_wp2_with fail
  rw [Exit.noGoto_ret]
  go_ret
  exact ⟨rfl, Below.refl _ _⟩
theorem NRune_any (r : Nat) (h0 : 128 ≤ r) (hv : (r : Int) < 55296 ∨ (57343 < (r : Int) ∧ (r : Int) ≤ 1114111)) (w : World) : Calls Tryz.prog 136 #[.string (bs [43, 45]), .int .i32 r] w fun e w' => e = .returned (.int .i64 (-1)) ∧ Below w.heap.size w w' := by
 by_cases hb : r = 65533
 ·subst hb; exact NRune_bad w
 ·rcases enc_high r h0 hv with ⟨a, b, he, hb1⟩ | ⟨he1, he2⟩
  ·exact NRune_two r h0 hb hv a b he hb1 w
  ·exact NRune_more r h0 hb hv (by omega) w
theorem dec_valid (l : List UInt8) (pos : Nat) (hp : pos < l.length) : ((Utf8.decode (bs l) pos).1 : Int) < 55296 ∨ (57343 < ((Utf8.decode (bs l) pos).1 : Int) ∧ ((Utf8.decode (bs l) pos).1 : Int) ≤ 1114111) := by
 rw [Lib.decode_N]
 have hb0 := UInt8.toNat_lt ((bs l).data.toList.getD pos 0)
 rcases Lib.decodeN_valid ((bs l).data.toList.length - pos) ((bs l).data.toList.getD pos 0).toNat ((bs l).data.toList.getD (pos + 1) 0).toNat ((bs l).data.toList.getD (pos + 2) 0).toNat ((bs l).data.toList.getD (pos + 3) 0).toNat (by omega) with h | h
 ·left; omega
 ·right; omega
/-- a rune of a text, and the bytes that it takes: ASCII, or none of '+-' -/
theorem dec_pm (l : List UInt8) (pos : Nat) (hp : pos < l.length) :
  (∃ x : UInt8, l[pos]? = some x ∧ x.toNat < 128 ∧ Utf8.decode (bs l) pos = (x.toNat, 1)) ∨
  (128 ≤ (Utf8.decode (bs l) pos).1 ∧ 1 ≤ (Utf8.decode (bs l) pos).2 ∧ pos + (Utf8.decode (bs l) pos).2 ≤ l.length ∧ ∀ x ∈ (l.take (pos + (Utf8.decode (bs l) pos).2)).drop pos, ([43, 45] : List UInt8).contains x = false) := by
 rw [Lib.decode_N, bs_data]
 have g : ∀ i, pos + i < l.length → ∀ x, l[pos + i]? = some x → (l.getD (pos + i) 0).toNat = x.toNat := by
  intro i hi x hx; rw [List.getD_eq_getElem?_getD, hx]; rfl
 have g0 := g 0 (by omega)
 have npm : ∀ x : UInt8, 128 ≤ x.toNat → ([43, 45] : List UInt8).contains x = false := by
  intro x hx
  have h1 : x ≠ 43 := by rintro rfl; revert hx; decide
  have h2 : x ≠ 45 := by rintro rfl; revert hx; decide
  simp [h1, h2]
 have hb0 : (l.getD pos 0).toNat < 256 := UInt8.toNat_lt _
 rcases Lib.decodeN_shape (l.length - pos) (l.getD pos 0).toNat (l.getD (pos + 1) 0).toNat (l.getD (pos + 2) 0).toNat (l.getD (pos + 3) 0).toNat with ⟨h0, e⟩ | ⟨h0, h1, h2, h3, e⟩ | ⟨h0, h1, h2, h3, h4, h5, e⟩ | ⟨h0, h1, h2, h3, h4, h5, h6, e⟩ | e
 ·left
  refine ⟨l[pos], List.getElem?_eq_getElem hp, ?_, ?_⟩
  ·have := g0 _ (List.getElem?_eq_getElem hp); simp only [Nat.add_zero] at this; omega
  ·have := g0 _ (List.getElem?_eq_getElem hp); simp only [Nat.add_zero] at this; rw [e, this]
 ·right; rw [e]
  refine ⟨by dsimp only; omega, by dsimp only; omega, by dsimp only; omega, ?_⟩
  intro x hx
  obtain ⟨i, hi, he⟩ := mem_mid hx
  simp at hi
  have hg := g i (by have := (List.getElem?_eq_some_iff.1 he).1; omega) x he
  apply npm
  rcases (by omega : i = 0 ∨ i = 1) with rfl | rfl <;> (try simp only [Nat.add_zero] at hg) <;> omega
 ·right; rw [e]
  refine ⟨by dsimp only; omega, by dsimp only; omega, by dsimp only; omega, ?_⟩
  intro x hx
  obtain ⟨i, hi, he⟩ := mem_mid hx
  simp at hi
  have hg := g i (by have := (List.getElem?_eq_some_iff.1 he).1; omega) x he
  apply npm
  rcases (by omega : i = 0 ∨ i = 1 ∨ i = 2) with rfl | rfl | rfl <;> (try simp only [Nat.add_zero] at hg) <;> omega
 ·right; rw [e]
  refine ⟨by dsimp only; omega, by dsimp only; omega, by dsimp only; omega, ?_⟩
  intro x hx
  obtain ⟨i, hi, he⟩ := mem_mid hx
  simp at hi
  have hg := g i (by have := (List.getElem?_eq_some_iff.1 he).1; omega) x he
  apply npm
  rcases (by omega : i = 0 ∨ i = 1 ∨ i = 2 ∨ i = 3) with rfl | rfl | rfl | rfl <;> (try simp only [Nat.add_zero] at hg) <;> omega
 ·right
  have h128 : 128 ≤ (l.getD pos 0).toNat := by
   apply Decidable.byContradiction
   intro h
   rw [Lib.decodeN_ascii _ _ _ _ _ (by omega)] at e
   injection e with e _
   omega
  rw [e]
  refine ⟨by dsimp only; omega, by dsimp only; omega, by dsimp only; omega, ?_⟩
  intro x hx
  obtain ⟨i, hi, he⟩ := mem_mid hx
  simp at hi; subst hi
  have := g0 x he
  simp only [Nat.add_zero] at this
  exact npm x (by rw [← this]; omega)
theorem noAny_more {l c : List UInt8} {a b : Nat} (h : Lib.NoAny l c a) (hx : ∀ x ∈ (l.take b).drop a, c.contains x = false) : Lib.NoAny l c b := by
 intro j x hj hl
 by_cases hja : j < a
 ·exact h j x hja hl
 ·refine hx x ?_
  have hjl := (List.getElem?_eq_some_iff.1 hl).1
  refine List.mem_iff_getElem?.2 ⟨j - a, ?_⟩
  rw [List.getElem?_drop, List.getElem?_take, show a + (j - a) = j by omega, if_pos hj]; exact hl
theorem NUse_no (n : Int) (h : ¬ 8 < n) (w : World) : Calls Tryz.prog 137 #[.int .i64 n] w fun e w' => e = .returned (.bool false) ∧ w = w' := by
 go_enter Tryz.func137, Tryz.ntmps137
 go_wp2_with fail
 go_ret
 exact ⟨by simp [h], rfl⟩
set_option maxRecDepth 100000 in
set_option maxHeartbeats 4000000 in
theorem NIdx_short (s : List UInt8) (h8 : s.length ≤ 8) (w : World) : Calls Tryz.prog 99 #[.string (bs s), .string (bs [43, 45])] w fun e w' => e = .returned (.int .i64 (Lib.indexAny s [43, 45])) ∧ Below w.heap.size w w' := by
 have hz : (bs s).size = s.length := by simp [bs, ByteArray.size]
 have hemp : (bs [43, 45]).toList.isEmpty = false := by rw [ByteArray.toList_eq, bs_data]; rfl
 have hn1 : (((bs [43, 45]).size : Int) == 1) = false := by rfl
 have HLow := Lib.hid NRune_low
 have HAny := Lib.hid NRune_any
 go_enter Tryz.func99, Tryz.ntmps99
 go_wp2_with fail
 refine (NUse_no _ (by omega) _).mono ?_
 rintro e w1 ⟨rfl, rfl⟩
 go_wp2_with fail
 go_loopw [] (fun wr => ∃ i : Nat, i ≤ s.length ∧ wr.heap[w.heap.size]? = some (.stringIter (bs s) i) ∧ Lib.NoAny s [43, 45] i ∧ Below w.heap.size w wr) (fun wr => s.length - wr.iterPos w.heap.size)
 case atStart => exact ⟨0, by omega, World.iter_heap _ _ _, Lib.NoAny.zero _ _, (Below.refl _ _).alloc (Nat.le_refl _) _⟩
 case round =>
  obtain ⟨i, hi, hk, hno, hb⟩ := hrel
  have HNO := Lib.hid hno
  have hmu : wr.iterPos w.heap.size = i := by simp [World.iterPos, hk]
  clear hno
  by_cases h : i < s.length
  ·rcases dec_pm s i h with ⟨x, hx, hx1, hd⟩ | ⟨hd1, hd2, hd3, hd4⟩
   ·have hnx := fun ty => Lib.run_next_any_at (P := Tryz.prog) wr w.heap.size (bs s) i ty hk (by omega)
    rw [hd] at hnx
    have hk1 := Lib.iterAt_heap wr w.heap.size (bs s) i (i + 1) hk
    have hb1 : Below w.heap.size w (wr.iterAt w.heap.size (bs s) (i + 1)) := Lib.below_iterAt hb (Nat.le_refl _) _ _
    simp only at hnx
    generalize wr.iterAt w.heap.size (bs s) (i + 1) = W1 at hnx hk1 hb1
    have HK := Lib.hid hk1
    have HX := Lib.hid hx
    have hcon := Lib.contains_iff_indexByte [43, 45] x
    have hback : ((x.toNat : Int)).toNat.toUInt8 = x := by simp
    have hx0 : (0 : Int) ≤ x.toNat := by omega
    have hx2 : (x.toNat : Int) < 128 := by omega
    clear hk hk1 hd hx
    cases hin : ([43, 45] : List UInt8).contains x
    ·rw [hin] at hcon
     have hlt : ¬ ((0 : Int) ≤ Lib.indexByte [43, 45] x) := of_decide_eq_false hcon.symm
     have HIN := Lib.hid hin
     clear hcon hin
     go_wp2_with fail
     refine (HLow.out _ hx0 hx2 _).mono ?_
     rintro e w2 ⟨rfl, rfl⟩
     rw [hback]
     go_wp2_with fail
     go_roundw
     case rel => exact ⟨i + 1, by omega, HK.out, HNO.out.succ HX.out HIN.out, hb1⟩
     case measure => rw [hmu, show W1.iterPos w.heap.size = i + 1 by simp [World.iterPos, HK.out]]; omega
    ·rw [hin] at hcon
     have hge : (0 : Int) ≤ Lib.indexByte [43, 45] x := of_decide_eq_true hcon.symm
     have HIN := Lib.hid hin
     clear hcon hin
     go_wp2_with fail
     refine (HLow.out _ hx0 hx2 _).mono ?_
     rintro e w2 ⟨rfl, rfl⟩
     rw [hback]
     go_wp2_with fail
     go_ret
     exact ⟨by rw [Lib.indexAny_hit HNO.out HX.out HIN.out]; rfl, hb1⟩
   ·have hnx := fun ty => Lib.run_next_any_at (P := Tryz.prog) wr w.heap.size (bs s) i ty hk (by omega)
    have hval := dec_valid s i h
    have hk1 := Lib.iterAt_heap wr w.heap.size (bs s) i (i + (Utf8.decode (bs s) i).2) hk
    have hb1 : Below w.heap.size w (wr.iterAt w.heap.size (bs s) (i + (Utf8.decode (bs s) i).2)) := Lib.below_iterAt hb (Nat.le_refl _) _ _
    generalize Utf8.decode (bs s) i = D at hnx hk1 hb1 hval hd1 hd2 hd3 hd4
    generalize wr.iterAt w.heap.size (bs s) (i + D.2) = W1 at hnx hk1 hb1
    have HK := Lib.hid hk1
    have HN := Lib.hid (noAny_more HNO.out hd4)
    clear hk hk1 hd4
    go_wp2_with fail
    refine (HAny.out D.1 hd1 hval _).mono ?_
    rintro e w2 ⟨rfl, hb2⟩
    have HK2 := Lib.hid ((hb2.block w.heap.size (Array.getElem?_eq_some_iff.1 HK.out).1).trans HK.out)
    have HB2 := Lib.hid (hb1.trans (hb2.mono hb1.size))
    clear hb2
    go_wp2_with fail
    go_roundw
    case rel => exact ⟨i + D.2, by omega, HK2.out, HN.out, HB2.out⟩
    case measure => rw [hmu, show w2.iterPos w.heap.size = i + D.2 by simp [World.iterPos, HK2.out]]; omega
  ·have hnx := fun ty => Lib.run_next_end_at (P := Tryz.prog) wr w.heap.size (bs s) i ty hk (by omega)
   obtain rfl : i = s.length := by omega
   go_wp2_with fail
   go_ret
   exact ⟨by rw [Lib.indexAny_none HNO.out]; rfl, hb⟩
/-- strings.IndexAny at '+-', whatever the text -/
theorem NIdx_any : IdxAny := by
 intro s w hs
 by_cases h8 : s.length ≤ 8
 ·exact NIdx_short s h8 w
 ·exact NIdx_long s (by omega) hs w
end Go.Proofs.YtglilddlhibogaaGreatDoor.W
