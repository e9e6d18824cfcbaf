/- VerifyDead: for every input the law returns true, and each argument reads as it did; the variable errors.errorType, strconv's two errors, the tables of names and those that numbers' texts are made of are tied to the program's text (the card). No further conditions. -/
import Derived.Test.YtpdlmbbgioenoaaGreatDoorOneLet
import Derived.Test.YtpdlmbbgioenoaaGreatDoorPureDead
import Derived.Test.YtpdlmbbgioenoaaGreatDoorStepRow
import Derived.Laws.AppendOwnNone
import Derived.Test.YtpdlmbbgioenoaaGreatDoorRows
import Derived.Test.YtpdlmbbgioenoaaGreatDoorCards
import Derived.Test.YtpdlmbbgioenoaaGreatDoorTie
import Derived.Test.YtpdlmbbgioenoaaGreatDoorReads
import Derived.Test.YtpdlmbbgioenoaaGreatDoorLaidB3
import Derived.Test.YtpdlmbbgioenoaaGreatDoorClosedVerifyDead
import Derived.ChangeMaps5
/-! part: LawVerifyDead -/
namespace Go.Proofs.YtpdlmbbgioenoaaGreatDoor.W
open Go.RowKit Go.Proofs.YtpdlmbbgioenoaaGreatDoor.P
set_option linter.unusedSimpArgs false
set_option linter.unusedVariables false
open Go.Sort (grow)

theorem verifyDead_big (oa ob : Option Addr) (n cap m bcap : Nat) (N : Int) (h : 60 < n ∨ 60 < m) (w : World) :
  Calls Tryz.prog 6 #[.slice oa n cap, .slice ob m bcap, .int .i64 N] w fun e w' => e = .returned (.bool true) ∧ Below w.heap.size w w' := by
 by_cases h1 : 60 < (n : Int)
 ·go_enter Tryz.func6, Tryz.ntmps6
  go_wp2_with fail
  go_ret
  exact ⟨rfl, Below.refl _ _⟩
 ·have h2 : 60 < (m : Int) := by omega
  go_enter Tryz.func6, Tryz.ntmps6
  go_wp2_with fail
  go_ret
  exact ⟨rfl, Below.refl _ _⟩
theorem Check_full (oa : Option Addr) (n cap : Nat) (S : Nat → Step) (hcap : n ≤ cap) (w : World) (hs : ProgAt w oa S n) (hg : ErrT w) :
  Calls Tryz.prog 28 #[.slice oa n cap] w fun e w' => ∃ er, e = .returned er ∧ ErrIs w' er (check S n).1 (check S n).2 ∧ Below w.heap.size w w' := by
 unfold check
 by_cases h : n < 1 ∨ 200 < n
 ·rw [if_pos h]
  exact (Check_limit oa n cap h hcap w).mono fun e w' ⟨he, hw⟩ => ⟨_, he, .inr (.inl ⟨by decide, rfl, rfl⟩), hw ▸ Below.refl _ _⟩
 ·rw [if_neg h]
  obtain ⟨a, rfl, hcs⟩ := hs (by omega)
  exact Check_some a n cap S (by omega) (by omega) hcap w hcs hg
theorem Tell_any {w : World} {v : Value} {n p : Int} (h : ErrIs w v n p) (hg : ErrT w) : Calls Tryz.prog 29 #[v] w fun e w' => e = .returned (.int .i64 n) ∧ Below w.heap.size w w' := by
 by_cases hn : n = 0
 ·subst hn
  obtain rfl := rerr_nil h
  exact (Tell_nil w).mono fun e w' ⟨he, hw⟩ => ⟨he, hw ▸ Below.refl _ _⟩
 ·exact Tell_is h hn hg
/-- a step, and an end -/
def pair (t : Step) : Nat → Step := fun i => if i = 0 then t else ⟨28, 0, 0, false, 0, 0⟩
theorem pair_skips {t : Step} (h : (check (pair t) 2).1 = 0) : Skips t := by
 have := at_ok ((at_all h).2 0 (by omega))
 exact ⟨this.1, fun hl => by have := this.2.1 hl; change 0 ≤ t.off ∧ t.off < _ at this; omega⟩
theorem pair_cells {W : World} {g : Nat} (t : Step) {ty : TypeId} (h : W.heap[g]? = some (.cells #[.int .i64 t.code, .int .i64 t.dst, .int .i64 t.src, .bool t.reg, .int .i64 t.off, .int .i64 t.num, .int .i64 28, .int .i64 0, .int .i64 0, .bool false, .int .i64 0, .int .i64 0] ty (0, 0))) : ProgAt W (some ⟨g, 0, none⟩) (pair t) 2 := by
 intro _
 refine ⟨_, rfl, fun i hi => ?_⟩
 have c : ∀ j, W.cell? ⟨g, j, none⟩ = (#[.int .i64 t.code, .int .i64 t.dst, .int .i64 t.src, .bool t.reg, .int .i64 t.off, .int .i64 t.num, .int .i64 28, .int .i64 0, .int .i64 0, .bool false, .int .i64 0, .int .i64 0] : Array Value)[j]? := fun j => cell_of_row W g j _ ty (0, 0) h
 have hi' : i = 0 ∨ i = 1 := by omega
 rcases hi' with rfl | rfl
 ·exact ⟨c 0, c 1, c 2, c 3, c 4, c 5⟩
 ·exact ⟨c 6, c 7, c 8, c 9, c 10, c 11⟩
theorem dead_addr (a : Addr) (i r : Nat) (hr : 0 < r) : (⟨(a.add (i * 6)).block, (a.add (i * 6)).off + r, none⟩ : Addr) = a.add (i * 6 + r) := by
 unfold Addr.add
 by_cases h : i * 6 = 0
 ·rw [if_pos h, if_neg (by omega), h, Nat.zero_add]
 ·rw [if_neg h, if_neg (by omega)]
  simp [Nat.add_assoc]
/-- a program's cells, one by one -/
theorem dead_row {w : World} {a : Addr} {S : Nat → Step} {n : Nat} (h : Cells w a S n) : ∀ j u, (rowOf (first S n))[j]? = some u → w.cell? (a.add j) = some u := by
 intro j u hj
 have hjl : j < n * 6 := by have := (List.getElem?_eq_some_iff.1 hj).1; rwa [rowOf_length, first_length] at this
 have hi : j / 6 < n := by omega
 have e : j = j / 6 * 6 + j % 6 := by omega
 rw [e, rowOf_at (first S n) (j / 6) (j % 6) (by rw [first_length]; exact hi) (by omega), nth_first S n _ hi] at hj
 obtain ⟨c0, c1, c2, c3, c4, c5⟩ := h (j / 6) hi
 rw [e]
 have hr : j % 6 = 0 ∨ j % 6 = 1 ∨ j % 6 = 2 ∨ j % 6 = 3 ∨ j % 6 = 4 ∨ j % 6 = 5 := by omega
 rcases hr with r | r | r | r | r | r <;> rw [r] at hj ⊢ <;> simp only [c6, List.getElem?_cons_zero, List.getElem?_cons_succ, Option.some.injEq] at hj <;> subst hj
 ·exact c0
 ·rw [← dead_addr a _ 1 (by omega)]; exact c1
 ·rw [← dead_addr a _ 2 (by omega)]; exact c2
 ·rw [← dead_addr a _ 3 (by omega)]; exact c3
 ·rw [← dead_addr a _ 4 (by omega)]; exact c4
 ·rw [← dead_addr a _ 5 (by omega)]; exact c5
theorem dead_one6 (L : List Step) : ∀ u ∈ rowOf L, u.oneCell' = true := by
 intro u hu
 obtain ⟨t, _, ht⟩ := List.mem_flatMap.1 hu
 exact c6_one t u ht
def jump (k : Nat) : Step := ⟨14, 0, 0, false, k, 0⟩
theorem jumped_nth (S : Nat → Step) (n : Nat) (K : List Step) (i : Nat) (h : i < K.length + 1 + n) : nth (jump K.length :: K ++ first S n) i = jumped S K i := by
 unfold jumped
 by_cases h0 : i = 0
 ·subst h0; rfl
 rw [if_neg h0]
 obtain ⟨j, rfl⟩ : ∃ j, i = j + 1 := ⟨i - 1, by omega⟩
 rw [List.cons_append, nth_succ]
 by_cases h1 : j + 1 < K.length + 1
 ·rw [if_pos h1]
  unfold nth
  rw [List.getD_eq_getElem?_getD, List.getD_eq_getElem?_getD, List.getElem?_append_left (by omega)]; rfl
 ·rw [if_neg h1]
  have := nth_first S n (j - K.length) (by omega)
  unfold nth at this ⊢
  rw [List.getD_eq_getElem?_getD] at this ⊢
  rw [List.getElem?_append_right (by omega), this]
  congr 1; omega
theorem lost_nth (S : Nat → Step) (n : Nat) (m : Int) (i : Nat) (h : i < 2 + n) : nth (⟨1, 0, 0, false, 0, m⟩ :: ⟨1, 0, 1, true, 0, 0⟩ :: first S n) i = lost S m i := by
 unfold lost
 by_cases h0 : i = 0
 ·subst h0; rfl
 rw [if_neg h0]
 by_cases h1 : i = 1
 ·subst h1; rfl
 rw [if_neg h1]
 obtain ⟨j, rfl⟩ : ∃ j, i = j + 1 + 1 := ⟨i - 2, by omega⟩
 rw [nth_succ, nth_succ, nth_first S n j (by omega)]
 congr 1
theorem jumped_in {S : Nat → Step} {n : Nat} {K : List Step} (h : ∀ j, j < n → In64 (S j).off ∧ In64 (S j).num) (hK : ∀ t ∈ K, (Skips t ∧ In64 t.off) ∧ In64 t.num) (hl : K.length ≤ 60) : ∀ j, j < K.length + 1 + n → In64 (jumped S K j).off ∧ In64 (jumped S K j).num := by
 intro j hj
 unfold jumped
 split
 ·exact ⟨by show In64 (K.length : Int); unfold In64; omega, in64_zero⟩
 split
 ·rw [List.getD_eq_getElem?_getD, List.getElem?_eq_getElem (show j - 1 < K.length by omega)]
  have := hK _ (List.getElem_mem (show j - 1 < K.length by omega))
  exact ⟨this.1.2, this.2⟩
 ·exact h _ (by omega)
theorem lost_in {S : Nat → Step} {n : Nat} {m : Int} (h : ∀ j, j < n → In64 (S j).off ∧ In64 (S j).num) (hm : In64 m) : ∀ j, j < 2 + n → In64 (lost S m j).off ∧ In64 (lost S m j).num := by
 intro j hj
 unfold lost
 split
 ·exact ⟨in64_zero, hm⟩
 split
 ·exact ⟨in64_zero, in64_zero⟩
 ·exact h _ (by omega)
theorem own_cells {w : World} {B n : Nat} {v : Value} {L : List Step} {S : Nat → Step} (hn : L.length = n) (h : w.ownsRow B 81 6 v n (rowOf L)) (h0 : 0 < n) (hS : ∀ i, i < n → nth L i = S i) : ∃ a c, v = .slice (some a) n c ∧ n ≤ c ∧ Cells w a S n := by
 obtain ⟨g, cap, cur, rfl, _, _, hc, _⟩ := h.2.resolve_left (fun x => by omega)
 refine ⟨_, cap, rfl, hc, fun i hi => ?_⟩
 have := row_cells hn h i hi
 rwa [hS i hi] at this
theorem own_new (W : World) (B : Nat) (hB : B ≤ W.heap.size) (L : List Step) (c : Array Value) (hc : c.toList = rowOf L) (n : Nat) (hn : L.length = n) (hn2 : n ≤ 200) : (W.alloc (.cells c 81)).ownsRow B 81 6 (.slice (some ⟨W.heap.size, 0, none⟩) n n) n (rowOf L) := by
 have hl : (rowOf L).length = n * 6 := by rw [rowOf_length, hn]
 refine ⟨hl, .inr ⟨W.heap.size, n, c, rfl, hB, heap_alloc_new W _, Nat.le_refl _, ?_, ?_, ?_⟩⟩
 ·unfold maxLen; omega
 ·rw [← Array.length_toList, hc, hl]
 ·rw [hc, List.take_of_length_le (by rw [hl]; omega)]
set_option maxRecDepth 100000 in
set_option maxHeartbeats 100000000 in
theorem verifyDead_walk (oa ob : Option Addr) (n cap m bcap : Nat) (S T : Nat → Step) (N : Int) (hcap : n ≤ cap) (hbc : m ≤ bcap) (hn : n ≤ 60) (hm : m ≤ 60) (w : World) (hs : ProgAt w oa S n) (ht : ProgAt w ob T m)
  (hin : ∀ j, j < n → In64 (S j).off ∧ In64 (S j).num) (hit : ∀ j, j < m → In64 (T j).off ∧ In64 (T j).num) (hN : In64 N) (hrt : RTabs w) (hg : ErrT w) :
  Calls Tryz.prog 6 #[.slice oa n cap, .slice ob m bcap, .int .i64 N] w fun e w' => e = .returned (.bool true) ∧ Below w.heap.size w w' := by
 have h1 : ¬ 60 < (n : Int) := by omega
 have h2 : ¬ 60 < (m : Int) := by omega
 have C1 := fun w' (hb : Below w.heap.size w w') => Verify_full oa n cap S hcap w' (hs.later hb) hin (hg.later hb)
 have LAW := fun (K : List Step) (hc : (check S n).1 = 0) (hK : ∀ t ∈ K, Skips t ∧ In64 t.num) (hl : K.length ≤ 60) => dead_law (m := N) hc (fun j hj => (hin j hj).2) hK hn hl hN
 have hver : (check S n).1 ≠ 0 → (verify S n).1.1 ≠ 0 := fun h => by unfold verify; rw [if_pos h]; exact h
 generalize verify S n = X at C1 LAW hver
 obtain ⟨⟨er, p⟩, ⟨lo, hi⟩⟩ := X
 dsimp only at hver
 have HC1 := Lib.hid C1
 have HLAW := Lib.hid LAW
 have HVER := Lib.hid hver
 have HC2 := Lib.hid (fun w' (hb : Below w.heap.size w w') => Check_full oa n cap S hcap w' (hs.later hb) (hg.later hb))
 have HH := Lib.hid hrt
 have HG := Lib.hid hg
 have HS := Lib.hid hs
 have HT := Lib.hid ht
 have HIN := Lib.hid hin
 have HIT := Lib.hid hit
 clear hs hg hin hrt ht hit C1 LAW hver
 go_enter Tryz.func6, Tryz.ntmps6
 go_wp2_with fail
 refine (Let_yes _ HH.out HG.out).mono ?_
 rintro e w1 ⟨rfl, hb⟩
 have HB1 := Lib.hid hb
 clear hb
 go_wp2_with fail
 refine (HC1.out _ HB1.out).mono ?_
 rintro e w2 ⟨v, rfl, he, hb⟩
 have HB2 := Lib.hid (HB1.out.trans (hb.mono HB1.out.size))
 clear hb
 simp only at he ⊢
 go_upto_region 6 with fail
 generalize hW : World.alloc w2 _ = w3
 have IB : Img w3 w2.heap.size 2 (fun j => ([.int .i64 lo, .int .i64 hi] : List Value).getD j undef) := hW ▸ Img.mk' (heap_alloc_new w2 _) (by kernel_rfl)
 have hb23 : Below w2.heap.size w2 w3 := hW ▸ ((Below.refl w2.heap.size w2).alloc (Nat.le_refl _) _)
 have HB3 := Lib.hid (HB2.out.trans (hb23.mono HB2.out.size))
 have HE3 := Lib.hid (he.later hb23)
 have HIB3 := Lib.hid IB
 clear hW hb23 he IB
 go_wp2_with fail
 refine (HC2.out _ HB3.out).mono ?_
 rintro e w4 ⟨ev, rfl, hce, hb⟩
 have HB4 := Lib.hid (HB3.out.trans (hb.mono HB3.out.size))
 have HE4 := Lib.hid (HE3.out.later hb)
 have HIB4 := Lib.hid (HIB3.out.later hb (HIB3.out.lt (by omega)))
 clear hb HE3 HIB3
 by_cases hc : (check S n).1 = 0
 ·rw [hc] at hce
  obtain rfl := rerr_nil hce
  clear hce
  go_wp2_with fail
  go_loopw [9, 10] (fun x y wr => ∃ (k : Nat) (K : List Step), k ≤ m ∧ y = .int .i64 k ∧ K.length ≤ k ∧ (∀ t ∈ K, (Skips t ∧ In64 t.off) ∧ In64 t.num) ∧ wr.ownsRow w4.heap.size 81 6 x K.length (rowOf K) ∧ Below w4.heap.size w4 wr) (fun x y _ => m - (intOf y).toNat)
  case atStart => exact ⟨0, [], by omega, rfl, by simp, by simp, World.ownsRow_nil _ _ _ _, Below.refl _ _⟩
  case round =>
   obtain ⟨k, K, hk, rfl, hkl, hK, hrow, HB⟩ := hrel
   have HK := Lib.hid hK
   have HROW := Lib.hid hrow
   have HBr := Lib.hid HB
   clear hK hrow HB
   by_cases h : k < m
   ·have hk1 : (k : Int) < m := by omega
    obtain ⟨b, rfl, hcs⟩ := HT.out (by omega)
    obtain ⟨e0, e1, e2, e3, e4, e5⟩ := hcs.later (HB4.out.trans (HBr.out.mono HB4.out.size)) k h
    clear hcs
    obtain ⟨og, kc, rfl⟩ := own_form HROW.out
    go_upto_region 13 with fail
    generalize hW : World.alloc wr _ = w5
    have IS : Img w5 wr.heap.size 6 (fun j => (c6 (T k)).getD j undef) := hW ▸ Img.mk' (heap_alloc_new wr _) (by rfl)
    have hb5 : Below wr.heap.size wr w5 := hW ▸ ((Below.refl wr.heap.size wr).alloc (Nat.le_refl _) _)
    have HB5 := Lib.hid (HBr.out.trans (hb5.mono HBr.out.size))
    have HROW5 := Lib.hid (row_later HROW.out hb5)
    have HIS5 := Lib.hid IS
    have a0 : w5.cell? ⟨wr.heap.size, 0, none⟩ = some (.int .i64 (T k).code) := IS.cell 0 (by omega)
    have a1 : w5.cell? ⟨wr.heap.size, 1, none⟩ = some (.int .i64 (T k).dst) := IS.cell 1 (by omega)
    have a2 : w5.cell? ⟨wr.heap.size, 2, none⟩ = some (.int .i64 (T k).src) := IS.cell 2 (by omega)
    have a3 : w5.cell? ⟨wr.heap.size, 3, none⟩ = some (.bool (T k).reg) := IS.cell 3 (by omega)
    have a4 : w5.cell? ⟨wr.heap.size, 4, none⟩ = some (.int .i64 (T k).off) := IS.cell 4 (by omega)
    have a5 : w5.cell? ⟨wr.heap.size, 5, none⟩ = some (.int .i64 (T k).num) := IS.cell 5 (by omega)
    clear hW hb5 HROW IS
    go_wp2_with fail
    have hbP : Below w5.heap.size w5 (w5.alloc (.cells #[.int .i64 (T k).code, .int .i64 (T k).dst, .int .i64 (T k).src, .bool (T k).reg, .int .i64 (T k).off, .int .i64 (T k).num, .int .i64 28, .int .i64 0, .int .i64 0, .bool false, .int .i64 0, .int .i64 0] 81)) := (Below.refl _ _).alloc (Nat.le_refl _) _
    refine (Check_full (some ⟨w5.heap.size, 0, none⟩) 2 2 (pair (T k)) (Nat.le_refl _) _ (pair_cells (T k) (heap_alloc_new w5 _)) (HG.out.later (HB4.out.trans ((HB5.out.trans (hbP.mono HB5.out.size)).mono HB4.out.size)))).mono ?_
    rintro e w6 ⟨ev, rfl, hce, hb⟩
    have hb56 : Below w5.heap.size w5 w6 := hbP.trans (hb.mono (by simp))
    have HB6 := Lib.hid (HB5.out.trans (hb56.mono HB5.out.size))
    have HROW6 := Lib.hid (row_later HROW5.out hb56)
    have I6 := HIS5.out.later hb56 (HIS5.out.lt (by omega))
    have HCE := Lib.hid hce
    clear hbP hb hb56 HIS5 HROW5 hce a0 a1 a2 a3 a4 a5
    have a0 : w6.cell? ⟨wr.heap.size, 0, none⟩ = some (.int .i64 (T k).code) := I6.cell 0 (by omega)
    have a1 : w6.cell? ⟨wr.heap.size, 1, none⟩ = some (.int .i64 (T k).dst) := I6.cell 1 (by omega)
    have a2 : w6.cell? ⟨wr.heap.size, 2, none⟩ = some (.int .i64 (T k).src) := I6.cell 2 (by omega)
    have a3 : w6.cell? ⟨wr.heap.size, 3, none⟩ = some (.bool (T k).reg) := I6.cell 3 (by omega)
    have a4 : w6.cell? ⟨wr.heap.size, 4, none⟩ = some (.int .i64 (T k).off) := I6.cell 4 (by omega)
    have a5 : w6.cell? ⟨wr.heap.size, 5, none⟩ = some (.int .i64 (T k).num) := I6.cell 5 (by omega)
    clear I6
    by_cases hp : (check (pair (T k)) 2).1 = 0
    ·have hce := HCE.out
     rw [hp] at hce
     obtain rfl := rerr_nil hce
     clear hce
     by_cases hx : (T k).code = 28
     ·have hx2 : ((T k).code == 28) = true := by rw [hx]; rfl
      have hx3 : ((T k).code != 28) = false := by rw [hx]; rfl
      clear hx
      go_wp2_with fail
      go_roundw
      case rel => exact ⟨k + 1, K, by omega, by go_num, by omega, HK.out, HROW6.out, HB6.out⟩
      case measure => simp [intOf]; omega
     ·have hx2 : ((T k).code == 28) = false := by rw [beq_eq_false_iff_ne]; exact hx
      have hx3 : ((T k).code != 28) = true := by rw [bne_iff_ne]; exact hx
      have HSK := Lib.hid (pair_skips hp)
      clear hx
      obtain ⟨i0, hi, hq⟩ := Option.map_eq_some_iff.1 infoStep
      have hz0 : i0.zero = some _ := congrArg (·.1) hq
      have hz1 : i0.size = 6 := congrArg (·.2.1) hq
      have hz2 : i0.bytes = 48 := congrArg (·.2.2) hq
      have hkl2 : K.length ≤ 60 := by omega
      go_wp2_with (at_builtin; refine wpList_append_own _ rfl _ _ 33 rfl w4.heap.size 81 i0 _ 6 48 Tryz.underlying33 hi hz0 hz1 hz2 rfl (by decide) _ _ _ rfl (HROW6.out.alloc _) ⟨w6.heap.size, 0, none⟩ 1 1 (c6 (T k)) rfl rfl (c6_new w6 (T k) 81) (c6_one (T k)) (by unfold maxLen; omega) (by omega) (by have := HB6.out.size; simp; omega) ?_; intro v' w7 hown' hgrow _)
      go_roundw
      case rel =>
       refine ⟨k + 1, K ++ [T k], by omega, by go_num, by simp; omega, fun t ht => ?_, by rw [rowOf_snoc, List.length_append]; exact hown', ?_⟩
       ·rcases List.mem_append.1 ht with ht | ht
        ·exact HK.out t ht
        ·rw [List.mem_singleton] at ht; subst ht; exact ⟨⟨HSK.out, (HIT.out k h).1⟩, (HIT.out k h).2⟩
       ·exact Below.grown (HB6.out.alloc HB6.out.size _) hgrow (by have := HB6.out.size; simp; omega) (fun b e => (HROW6.out.lt b e).1)
      case measure => simp [intOf]; omega
    ·obtain ⟨et, ex, rfl⟩ := rerr_iface HCE.out hp
     go_wp2_with fail
     go_roundw
     case rel => exact ⟨k + 1, K, by omega, by go_num, by omega, HK.out, HROW6.out, HB6.out⟩
     case measure => simp [intOf]; omega
   ·obtain rfl : k = m := by omega
    obtain ⟨og, kc, rfl⟩ := own_form HROW.out
    have hn1 := (at_all hc).1
    obtain ⟨a, rfl, hcs⟩ := HS.out (by omega)
    obtain ⟨i0, hi, hq⟩ := Option.map_eq_some_iff.1 infoStep
    have hz0 : i0.zero = some _ := congrArg (·.1) hq
    have hz1 : i0.size = 6 := congrArg (·.2.1) hq
    have hz2 : i0.bytes = 48 := congrArg (·.2.2) hq
    have hkl2 : K.length ≤ 60 := by omega
    have HCS := Lib.hid hcs
    clear hcs
    go_upto_region 15 with fail
    go_cut [12] (fun x wx => wx.ownsRow w4.heap.size 81 6 x (1 + K.length + n) (rowOf [jump K.length] ++ rowOf K ++ rowOf (first S n)) ∧ Below w4.heap.size w4 wx)
    case first =>
     have hbw := HB4.out.trans (HBr.out.mono HB4.out.size)
     have hsz := HBr.out.size
     rcases HROW.out.2 with ⟨hnil, h0⟩ | ⟨g, cap', cur, hv, hbg, hg, hrest⟩
     ·injection hnil with e1 e2 e3
      subst e1; subst e3
      have hK0 : K = [] := List.eq_nil_of_length_eq_zero h0
      subst hK0
      have hownJ := own_new wr w4.heap.size HBr.out.size [jump 0] #[.int .i64 14, .int .i64 0, .int .i64 0, .bool false, .int .i64 0, .int .i64 0] rfl 1 rfl (by decide)
      have hr2 : ∀ j u, (rowOf (first S n))[j]? = some u → (wr.alloc (.cells #[.int .i64 14, .int .i64 0, .int .i64 0, .bool false, .int .i64 0, .int .i64 0] 81)).cell? (a.add j) = some u := dead_row (HCS.out.later (hbw.alloc hbw.size _))
      go_wp2_with (first
       | (at_builtin; refine wpList_append_own_none rfl (.tmp 65) (.tmp 66) 33 rfl w4.heap.size 81 i0 6 Tryz.underlying33 hi _ _ _ rfl hownJ rfl ?_)
       | (at_builtin; refine wpList_append_own _ rfl (.tmp 67) (.tmp 68) 33 rfl w4.heap.size 81 i0 _ 6 48 Tryz.underlying33 hi hz0 hz1 hz2 rfl (by decide) _ _ _ rfl hownJ a n cap (rowOf (first S n)) rfl (by rw [rowOf_length, first_length]) hr2 (dead_one6 _) (by unfold maxLen; omega) (by omega) (by simp; omega) ?_; intro v8 w8 hown8 hgrow8 _))
      go_meet
      go_light
      refine ⟨by simpa [rowOf] using hown8, ?_⟩
      exact Below.grown (HBr.out.alloc HBr.out.size _) hgrow8 (by simp; omega) (fun b e => by cases e; exact HBr.out.size)
     ·injection hv with e1 e2 e3
      subst e1; subst e3
      have hownJ := own_new wr w4.heap.size HBr.out.size [jump K.length] #[.int .i64 14, .int .i64 0, .int .i64 0, .bool false, .int .i64 K.length, .int .i64 0] rfl 1 rfl (by decide)
      have hr1 : ∀ j u, (rowOf K)[j]? = some u → (wr.alloc (.cells #[.int .i64 14, .int .i64 0, .int .i64 0, .bool false, .int .i64 K.length, .int .i64 0] 81)).cell? ((⟨g, 0, none⟩ : Addr).add j) = some u := fun j u hj => (HROW.out.alloc _).cells rfl j u hj
      go_wp2_with (first
       | (at_builtin; refine wpList_append_own _ rfl (.tmp 65) (.tmp 66) 33 rfl w4.heap.size 81 i0 _ 6 48 Tryz.underlying33 hi hz0 hz1 hz2 rfl (by decide) _ _ _ rfl hownJ ⟨g, 0, none⟩ K.length kc (rowOf K) rfl (rowOf_length K) hr1 (dead_one6 _) (by unfold maxLen; omega) (by omega) (by simp; omega) ?_; intro v7 w7 hown7 hgrow7 _; (have hb7 : Below w4.heap.size w4 w7 := Below.grown (HBr.out.alloc HBr.out.size _) hgrow7 (by simp; omega) (fun b e => by cases e; exact HBr.out.size)); (have hr2 : ∀ j u, (rowOf (first S n))[j]? = some u → w7.cell? (a.add j) = some u := dead_row (HCS.out.later (HB4.out.trans (hb7.mono HB4.out.size)))); have HB7 := Lib.hid hb7; clear hb7 hgrow7 hr1)
       | (at_builtin; refine wpList_append_own _ rfl (.tmp 67) (.tmp 68) 33 rfl w4.heap.size 81 i0 _ 6 48 Tryz.underlying33 hi hz0 hz1 hz2 rfl (by decide) _ _ _ rfl hown7 a n cap (rowOf (first S n)) rfl (by rw [rowOf_length, first_length]) hr2 (dead_one6 _) (by unfold maxLen; omega) (by omega) (by exact HB7.out.size) ?_; intro v8 w8 hown8 hgrow8 _))
      go_meet
      go_light
      refine ⟨hown8, ?_⟩
      exact Below.grown HB7.out hgrow8 HB7.out.size (fun b e => (hown7.lt b e).1)
    case rest =>
     obtain ⟨hown, hbJ⟩ := hcut
     obtain ⟨wj, hwj⟩ : ∃ x, x = wc := ⟨_, rfl⟩; subst hwj
     have e1 : (jump K.length :: K ++ first S n).length = K.length + 1 + n := by simp [first_length]; omega
     rw [show 1 + K.length + n = K.length + 1 + n by omega, show rowOf [jump K.length] ++ rowOf K ++ rowOf (first S n) = rowOf (jump K.length :: K ++ first S n) by simp [rowOf]] at hown
     obtain ⟨aj, cj, rfl, hcj, hjc⟩ := own_cells e1 hown (by omega) (jumped_nth S n K)
     have HJ := Lib.hid hjc
     have HBJ := Lib.hid hbJ
     clear hown hbJ hjc
     have hsj := HBJ.out.size
     go_upto_region 16 with fail
     go_cut [13] (fun x wx => wx.ownsRow w4.heap.size 81 6 x (2 + n) (rowOf [⟨1, 0, 0, false, 0, N⟩, ⟨1, 0, 1, true, 0, 0⟩] ++ rowOf (first S n)) ∧ Cells wx aj (jumped S K) (K.length + 1 + n) ∧ Below w4.heap.size w4 wx)
     case first =>
      have hbw := HB4.out.trans (HBJ.out.mono HB4.out.size)
      have hownL := own_new wj w4.heap.size HBJ.out.size [⟨1, 0, 0, false, 0, N⟩, ⟨1, 0, 1, true, 0, 0⟩] #[.int .i64 1, .int .i64 0, .int .i64 0, .bool false, .int .i64 0, .int .i64 N, .int .i64 1, .int .i64 0, .int .i64 1, .bool true, .int .i64 0, .int .i64 0] rfl 2 rfl (by decide)
      have hr2 : ∀ j u, (rowOf (first S n))[j]? = some u → (wj.alloc (.cells #[.int .i64 1, .int .i64 0, .int .i64 0, .bool false, .int .i64 0, .int .i64 N, .int .i64 1, .int .i64 0, .int .i64 1, .bool true, .int .i64 0, .int .i64 0] 81)).cell? (a.add j) = some u := dead_row (HCS.out.later (hbw.alloc hbw.size _))
      go_wp2_with (at_builtin; refine wpList_append_own _ rfl (.tmp 73) (.tmp 74) 33 rfl w4.heap.size 81 i0 _ 6 48 Tryz.underlying33 hi hz0 hz1 hz2 rfl (by decide) _ _ _ rfl hownL a n cap (rowOf (first S n)) rfl (by rw [rowOf_length, first_length]) hr2 (dead_one6 _) (by unfold maxLen; omega) (by omega) (by simp; omega) ?_; intro v8 w8 hown8 hgrow8 _)
      go_meet
      go_light
      have hb8 : Below wj.heap.size wj w8 := Below.grown ((Below.refl wj.heap.size wj).alloc (Nat.le_refl _) _) hgrow8 (by simp) (fun b e => by cases e; exact Nat.le_refl _)
      exact ⟨hown8, HJ.out.later hb8, HBJ.out.trans (hb8.mono HBJ.out.size)⟩
     case rest =>
      obtain ⟨hown, hjc, hbJ⟩ := hcut
      obtain ⟨wk, hwk⟩ : ∃ x, x = wc := ⟨_, rfl⟩; subst hwk
      have e2 : ((⟨1, 0, 0, false, 0, N⟩ : Step) :: ⟨1, 0, 1, true, 0, 0⟩ :: first S n).length = 2 + n := by simp [first_length]; omega
      rw [show rowOf [(⟨1, 0, 0, false, 0, N⟩ : Step), ⟨1, 0, 1, true, 0, 0⟩] ++ rowOf (first S n) = rowOf (⟨1, 0, 0, false, 0, N⟩ :: ⟨1, 0, 1, true, 0, 0⟩ :: first S n) by simp [rowOf]] at hown
      obtain ⟨al, cl, rfl, hcl, hlc⟩ := own_cells e2 hown (by omega) (lost_nth S n N)
      have HJ := Lib.hid hjc
      have HL := Lib.hid hlc
      have HBK := Lib.hid hbJ
      have hin1 : ∀ j, j < K.length + 1 + n → In64 (jumped S K j).off ∧ In64 (jumped S K j).num := jumped_in HIN.out HK.out hkl2
      have hin2 : ∀ j, j < 2 + n → In64 (lost S N j).off ∧ In64 (lost S N j).num := lost_in HIN.out hN
      have HI1 := Lib.hid hin1
      have HI2 := Lib.hid hin2
      have C3 := fun w' (hb : Below wk.heap.size wk w') => Verify_full (some aj) (K.length + 1 + n) cj (jumped S K) hcj w' (fun _ => ⟨aj, rfl, HJ.out.later hb⟩) HI1.out (HG.out.later (HB4.out.trans ((HBK.out.trans (hb.mono HBK.out.size)).mono HB4.out.size)))
      have C4 := fun w' (hb : Below wk.heap.size wk w') => Verify_full (some al) (2 + n) cl (lost S N) hcl w' (fun _ => ⟨al, rfl, HL.out.later hb⟩) HI2.out (HG.out.later (HB4.out.trans ((HBK.out.trans (hb.mono HBK.out.size)).mono HB4.out.size)))
      have LAW := HLAW.out K hc (fun t ht => ⟨(HK.out t ht).1.1, (HK.out t ht).2⟩) hkl2
      generalize verify (jumped S K) (K.length + 1 + n) = X1 at C3 LAW
      generalize verify (lost S N) (2 + n) = X2 at C4 LAW
      obtain ⟨⟨er1, p1⟩, ⟨lo1, hi1⟩⟩ := X1
      obtain ⟨⟨er2, p2⟩, ⟨lo2, hi2⟩⟩ := X2
      simp only at LAW
      have HC3 := Lib.hid C3
      have HC4 := Lib.hid C4
      have HL4 := Lib.hid LAW
      clear hown hbJ hjc hlc hin1 hin2 C3 C4 LAW
      go_wp2_with fail
      refine (HC3.out _ (Below.refl _ _)).mono ?_
      rintro e w9 ⟨v1, rfl, he1, hb⟩
      have HB9 := Lib.hid hb
      clear hb
      simp only at he1 ⊢
      go_upto_region 18 with fail
      generalize hW : World.alloc w9 _ = w10
      have I1 : Img w10 w9.heap.size 2 (fun j => ([.int .i64 lo1, .int .i64 hi1] : List Value).getD j undef) := hW ▸ Img.mk' (heap_alloc_new w9 _) (by kernel_rfl)
      have hb910 : Below w9.heap.size w9 w10 := hW ▸ ((Below.refl w9.heap.size w9).alloc (Nat.le_refl _) _)
      have HB10 := Lib.hid (HB9.out.trans (hb910.mono HB9.out.size))
      have HE1 := Lib.hid (he1.later hb910)
      have HI10 := Lib.hid I1
      clear hW hb910 he1 I1
      go_wp2_with fail
      refine (HC4.out _ HB10.out).mono ?_
      rintro e w11 ⟨v2, rfl, he2, hb⟩
      have HB11 := Lib.hid (HB10.out.trans (hb.mono HB10.out.size))
      have HE111 := Lib.hid (HE1.out.later hb)
      have HI11 := Lib.hid (HI10.out.later hb (HI10.out.lt (by omega)))
      clear hb
      simp only at he2 ⊢
      go_upto_region 19 with fail
      generalize hW : World.alloc w11 _ = w12
      have hb1112 : Below w11.heap.size w11 w12 := hW ▸ ((Below.refl w11.heap.size w11).alloc (Nat.le_refl _) _)
      have HB12 := Lib.hid (HBK.out.trans ((HB11.out.trans (hb1112.mono HB11.out.size)).mono HBK.out.size))
      have HE0 := Lib.hid (HE4.out.later HB12.out)
      have HE1 := Lib.hid (HE111.out.later hb1112)
      have HE2 := Lib.hid (he2.later hb1112)
      have HIA := Lib.hid (HI11.out.later hb1112 (HI11.out.lt (by omega)))
      have HIB := Lib.hid (HIB4.out.later HB12.out (HIB4.out.lt (by omega)))
      clear hW hb1112 he2
      have HGK := Lib.hid (show ErrT w12 from HG.out.later (HB4.out.trans (HB12.out.mono HB4.out.size)))
      have HBT := Lib.hid (HB4.out.trans (HB12.out.mono HB4.out.size))
      go_wp2_with fail
      refine (Tell_any HE0.out HGK.out).mono ?_
      rintro e w13 ⟨rfl, hb⟩
      have HB13 := Lib.hid hb
      clear hb
      by_cases h4 : er = 4
      ·have h5 : (er == 4) = true := by rw [h4]; rfl
       clear h4
       go_wp2_with fail
       go_ret
       exact ⟨rfl, HBT.out.trans (HB13.out.mono HBT.out.size)⟩
      have h5 : (er == 4) = false := by rw [beq_eq_false_iff_ne]; exact h4
      go_wp2_with fail
      refine (Tell_any (HE1.out.later HB13.out) (HGK.out.later HB13.out)).mono ?_
      rintro e w14 ⟨rfl, hb⟩
      have HB14 := Lib.hid (HB13.out.trans (hb.mono HB13.out.size))
      clear hb
      by_cases h6 : er1 = 4
      ·have h7 : (er1 == 4) = true := by rw [h6]; rfl
       clear h6
       go_wp2_with fail
       go_ret
       exact ⟨rfl, HBT.out.trans (HB14.out.mono HBT.out.size)⟩
      have h7 : (er1 == 4) = false := by rw [beq_eq_false_iff_ne]; exact h6
      go_wp2_with fail
      refine (Tell_any (HE2.out.later HB14.out) (HGK.out.later HB14.out)).mono ?_
      rintro e w15 ⟨rfl, hb⟩
      have HB15 := Lib.hid (HB14.out.trans (hb.mono HB14.out.size))
      clear hb
      by_cases h8 : er2 = 4
      ·have h9 : (er2 == 4) = true := by rw [h8]; rfl
       clear h8
       go_wp2_with fail
       go_ret
       exact ⟨rfl, HBT.out.trans (HB15.out.mono HBT.out.size)⟩
      have h9 : (er2 == 4) = false := by rw [beq_eq_false_iff_ne]; exact h8
      obtain ⟨q1, q2, q3⟩ := ((HL4.out.resolve_left h4).resolve_left h6).resolve_left h8
      subst q1
      injection q2 with q4 q5
      subst q4; subst q5
      have HQ := Lib.hid q3
      clear q3
      go_wp2_with fail
      refine (Tell_any (HE1.out.later HB15.out) (HGK.out.later HB15.out)).mono ?_
      rintro e w16 ⟨rfl, hb⟩
      have HB16 := Lib.hid (HB15.out.trans (hb.mono HB15.out.size))
      clear hb
      go_wp2_with fail
      refine (Tell_any (HE0.out.later HB16.out) (HGK.out.later HB16.out)).mono ?_
      rintro e w17 ⟨rfl, hb⟩
      have HB17 := Lib.hid (HB16.out.trans (hb.mono HB16.out.size))
      clear hb
      have IA := HIA.out.later HB17.out (HIA.out.lt (by omega))
      have IB := HIB.out.later HB17.out (HIB.out.lt (by omega))
      have a0 : w17.cell? ⟨w9.heap.size, 0, none⟩ = some (.int .i64 lo1) := IA.cell 0 (by omega)
      have a1 : w17.cell? ⟨w9.heap.size, 1, none⟩ = some (.int .i64 hi1) := IA.cell 1 (by omega)
      have b0 : w17.cell? ⟨w2.heap.size, 0, none⟩ = some (.int .i64 lo1) := IB.cell 0 (by omega)
      have b1 : w17.cell? ⟨w2.heap.size, 1, none⟩ = some (.int .i64 hi1) := IB.cell 1 (by omega)
      clear IA IB
      rcases HQ.out with h0 | h0
      ·obtain ⟨et, ex, rfl⟩ := rerr_iface HE0.out h0
       clear h0
       go_wp2_with fail
       go_ret
       refine ⟨?_, HBT.out.trans (HB17.out.mono HBT.out.size)⟩
       first | rfl | (simp; done) | exact ret_bool (by simp)
      ·subst h0
       obtain rfl := rerr_nil HE2.out
       by_cases hv : v = .nilIface
       ·subst hv
        go_wp2_with fail
        go_ret
        refine ⟨?_, HBT.out.trans (HB17.out.mono HBT.out.size)⟩
        first | rfl | (simp; done) | exact ret_bool (by simp)
       ·have hvi : ∃ t x, v = .iface t x := by
         rcases HE0.out with ⟨h, _⟩ | ⟨_, h, _⟩ | ⟨_, b', h, _⟩
         ·exact absurd h hv
         ·exact ⟨_, _, h⟩
         ·exact ⟨_, _, h⟩
        obtain ⟨et, ex, rfl⟩ := hvi
        clear hv
        go_wp2_with fail
        go_ret
        refine ⟨?_, HBT.out.trans (HB17.out.mono HBT.out.size)⟩
        first | rfl | (simp; done) | exact ret_bool (by simp)
 ·obtain ⟨et, ex, rfl⟩ := rerr_iface hce hc
  have hv := HVER.out hc
  obtain ⟨et, ex, rfl⟩ := rerr_iface HE4.out hv
  clear hce
  go_wp2_with fail
  go_ret
  refine ⟨?_, HB4.out⟩
  first | rfl | (simp; done) | exact ret_bool (by simp)
end Go.Proofs.YtpdlmbbgioenoaaGreatDoor.W

/-! part: FinalVerifyDead -/
namespace Go.Proofs.YtpdlmbbgioenoaaGreatDoor.verifyDead
open Go.ChangeShapes Go.WideShapes Go.ChangeAt Go.RowKit Go.Joins Go.Deep Go.Proofs.YtpdlmbbgioenoaaGreatDoor.R
set_option linter.unusedSimpArgs false
set_option linter.unusedVariables false
set_option linter.unusedVariables false

theorem own : ownKnob Tryz.prog.godebug = none := by kernel_rfl
/-! the row's step -/
set_option maxRecDepth 100000 in
theorem lifted (os : Os) (started : os.Started) (H : Type) (enc : TypeId × Value → H) :
  ReturnsInHanded {} Tryz.checked os 6 .any (fun w args => (Rows.verifyDeadSpec.pre enc Tryz.prog Tryz.f6 [] false w args ∧ laidMetH Tryz.prog Rows.verifyDeadRow.laid w) ∧ sizedMet enc Tryz.prog Tryz.f6 (OpenSpec.ofChange Rows.verifyDeadSpec) false w args)
   (Rows.verifyDeadSpec.post enc Tryz.prog Tryz.f6 false true false false) := by
 refine returnsInHanded_of_change_and (C := Tryz.checked) (X := fun w _ => laidMetH Tryz.prog Rows.verifyDeadRow.laid w) (fun _ _ _ hh h => h.of_heap hh) own started (by kernel_rfl) Tryz.func6
  (ChangeSpec.witness_shaped (enc := enc) (C := Tryz.checked) (os := os) (X := fun w _ => laidMetH Tryz.prog Rows.verifyDeadRow.laid w) false (LaidB3.doorW os) #[.slice none 0 0, .slice none 0 0, .int .i64 0] 8 (LaidB3.doorW_os os) (LaidB3.door_shaped os _) (by kernel_rfl) (by kernel_rfl) (by kernel_rfl) (LaidB3.door_met os _)) ?_
 intro W base args ds gs before hval0 hW _ _ hL _
 have hval : ∀ (j : Nat) t v, Tryz.f6.params[j]? = some t → args[j]? = some v → Value.okWide Tryz.prog W .any base t v := hval0
 have hW' := hW
 obtain ⟨p, q, hA0, hV, rfl, hfz, hnd⟩ := hW
 have hA : DataW.TrodAll enc Tryz.prog W 0 (fun _ => true) true Tryz.f6.params.toList args.toList ds p := hA0
 rw [Tryz.params6] at hA hval
 obtain ⟨v0, vs0, d0, ds0, p0, q0, hargs, rfl, rfl, h0, r0⟩ := trodAll_cons hA
 obtain ⟨v1, vs1, d1, ds1, p1, q1, rfl, rfl, rfl, h1, r1⟩ := trodAll_cons r0
 obtain ⟨v2, vs2, d2, ds2, p2, q2, rfl, rfl, rfl, h2, r2⟩ := trodAll_cons r1
 obtain ⟨rfl, rfl, rfl⟩ := trodAll_nil r2
 obtain rfl : args = #[v0, v1, v2] := by cases args; simp_all
 obtain ⟨rfl, rfl⟩ := trodVars_none hV
 obtain ⟨a0, len0, cap0, rfl⟩ := okWide_slice Tryz.underlying33 (hval 0 33 v0 rfl rfl)
 obtain ⟨a1, len1, cap1, rfl⟩ := okWide_slice Tryz.underlying33 (hval 1 33 v1 rfl rfl)
 obtain ⟨N, rfl, -, -, w2⟩ := open_int Tryz.underlying2 (hval 2 2 v2 rfl rfl) h2
 have hg := LaidB3.handle hL
 have hr := LaidB3.rtabs hL
 have hlt : ∀ x ∈ p0 ++ (p1 ++ (p2 ++ [])), x.block < W.heap.size := fun x hx => hW'.lt x (by simpa using hx)
 have fin : ∀ W' : World, Below W.heap.size W W' → Rows.verifyDeadSpec.post enc Tryz.prog Tryz.f6 false true false false W #[.slice a0 len0 cap0, .slice a1 len1 cap1, .int .i64 N] (.bool true) W' := fun W' hb =>
  Go.Proofs.YtpdlmbbgioenoaaGreatDoor.W.post_old (pa := p0 ++ (p1 ++ (p2 ++ []))) (pv := []) hb hW' rfl (fun _ _ _ => (trodAll_cons_mk (shut_bool Tryz.underlying4 _) trodAll_mk0))
   (fun sp hsp => trodAll_cons_mk (WideElems.Trod_stays laidOut (by kernel_rfl) (of_decide_eq_true (by kernel_rfl)) h0 (fun x hx => hb.same (hlt x (by simp [hx]))) (fun x hx => hsp x (by simp [hx])))
    (trodAll_cons_mk (WideElems.Trod_stays laidOut (by kernel_rfl) (of_decide_eq_true (by kernel_rfl)) h1 (fun x hx => hb.same (hlt x (by simp [hx]))) (fun x hx => hsp x (by simp [hx])))
    (trodAll_cons_mk (WideElems.Trod_stays laidOut (by kernel_rfl) (of_decide_eq_true (by kernel_rfl)) h2 (fun x hx => hb.same (hlt x (by simp [hx]))) (fun x hx => hsp x (by simp [hx])))
    trodAll_mk0)))
   (fun _ _ => rfl) (ok_one (by kernel_rfl) rfl (okWide_bool_mk Tryz.underlying4 _))
 clear hA0 hval0
 have main : ∀ {a0 : Option Addr} {len0 cap0 : Nat} {d0 : DataW H} {p0 : List MemPlace}, DataW.Trod enc Tryz.prog W 0 (fun _ => true) true 33 (.slice a0 len0 cap0) d0 p0 → len0 ≤ cap0 ∧ ∃ S, Go.Proofs.YtpdlmbbgioenoaaGreatDoor.W.ProgAt W a0 S len0 ∧ ∀ j, j < len0 → P.In64 (S j).dst ∧ P.In64 (S j).src ∧ P.In64 (S j).off ∧ P.In64 (S j).num := by
  intro a0 len0 cap0 d0 p0 h0
  obtain ⟨fuel, hf⟩ := h0
  rcases steps_of_reads (show DataW.trod enc Tryz.prog W 0 (fun _ => true) true fuel 33 [.slice a0 len0 cap0] = some (d0, p0) by simpa [Value.cells] using hf) with h1 | ⟨a, len, cap, S, h1, hl, hs, hi⟩
  ·simp only [Value.slice.injEq] at h1
   obtain ⟨rfl, rfl, rfl⟩ := h1
   exact ⟨Nat.le_refl _, fun _ => ⟨0, 0, 0, false, 0, 0⟩, fun h => by omega, fun j h => by omega⟩
  ·simp only [Value.slice.injEq] at h1
   obtain ⟨rfl, rfl, rfl⟩ := h1
   exact ⟨hl, S, fun _ => ⟨a, rfl, hs⟩, hi⟩
 obtain ⟨hcap0, S, hs0, hin0⟩ := main h0
 obtain ⟨hcap1, T, hs1, hin1⟩ := main h1
 by_cases hbig : 60 < len0 ∨ 60 < len1
 ·refine (Go.Proofs.YtpdlmbbgioenoaaGreatDoor.W.verifyDead_big a0 a1 len0 cap0 len1 cap1 N hbig W).mono fun e W' ⟨he, hb⟩ => ?_
  subst he
  exact ⟨_, rfl, fin W' hb⟩
 ·refine (Go.Proofs.YtpdlmbbgioenoaaGreatDoor.W.verifyDead_walk a0 a1 len0 cap0 len1 cap1 S T N hcap0 hcap1 (by omega) (by omega) W hs0 hs1 (fun j hj => (hin0 j hj).2.2) (fun j hj => (hin1 j hj).2.2) (in64_lit w2) hr hg).mono fun e W' ⟨he, hb⟩ => ?_
  subst he
  exact ⟨_, rfl, fin W' hb⟩

theorem over : Rows.VerifyDeadSaid :=
 OpenClaim.holds_of_wide 6 Tryz.f6 rfl rfl rfl rfl rfl rfl rfl ⟨rfl, rfl, rfl, rfl, rfl⟩ rfl rfl rfl rfl rfl (by kernel_rfl) Tryz.func6 verifyDeadClosed.closed
  (of_decide_eq_true (by kernel_rfl)) (by unfold Func.isWrapper; first | (rw [if_pos (by decide +kernel)]; kernel_rfl) | (rw [if_neg (by decide +kernel)]; exact ⟨rfl, rfl⟩))
  (fun os started H enc _ => lifted os started H enc)

/-- THE STATEMENT: the tied card -/
theorem proved : Rows.VerifyDeadCardSaid :=
 Claim7.holds_tied_plain_at .later [] [.data, .data, .data, .data, .handle, .sentinel, .sentinel, .widerDeep, .widerDeep, .pinned] true _ true
  over (fun _ h => by cases h) (by kernel_rfl) (fun _ h => by cases h) verifyDead_row_tie rfl ⟨rfl, rfl⟩ (by kernel_rfl) rfl
  (fun f fn hf hfn => by
   obtain rfl : f = 6 := Option.some.inj ((show Tryz.prog.funcNamed "gatehouse/gatehousekeep.VerifyDead" = some 6 by kernel_rfl).symm.trans hf) |>.symm
   obtain rfl : fn = Tryz.f6 := (Option.some.inj (Tryz.func6.symm.trans hfn)).symm
   exact ⟨by kernel_rfl, fun j t ht => by
    rw [Tryz.params6] at ht
    have hm : t ∈ [33, 2] := by simpa using Array.mem_of_getElem? ht
    have hall : ([33, 2].all fun u => !Tryz.prog.wantsStandIn u) = true := by kernel_rfl
    exact (show Tryz.prog.wantsStandIn t = false by simpa using List.all_eq_true.1 hall t hm)⟩)
  (by kernel_rfl)
#print axioms proved
end Go.Proofs.YtpdlmbbgioenoaaGreatDoor.verifyDead
