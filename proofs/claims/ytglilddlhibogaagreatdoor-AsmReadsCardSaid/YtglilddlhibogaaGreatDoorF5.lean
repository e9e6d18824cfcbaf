/- The reference's reading of a text, by contract: the program that a text is, or what is wrong, and where. Conditions: the text is short; the tables that reading reads, and the reference's own, lie in the world; strings.Split at one byte goes as it should. -/
import Derived.Test.YtglilddlhibogaaGreatDoorF4
import Derived.Test.YtglilddlhibogaaGreatDoorStepRow
import Derived.Deep.AppendLies
namespace Go.Proofs.YtglilddlhibogaaGreatDoor.W
open Go.RowKit Go.Proofs.YtglilddlhibogaaGreatDoor.P
set_option linter.unusedSimpArgs false
set_option linter.unusedVariables false

/-- strings.Split at one byte -/
def SplitOne : Prop := ∀ (s : List UInt8) (c : UInt8) (w : World), s.length ≤ 100000 → Calls Tryz.prog 33 #[.string (bs s), .string (bs [c])] w fun e w' =>
 e = .returned (.slice (some ⟨w.heap.size, 0, none⟩) (cut1 c s).length (cut1 c s).length) ∧ (∀ (j : Nat) y, (cut1 c s)[j]? = some y → w'.cell? ⟨w.heap.size, j, none⟩ = some (.string (bs y))) ∧ w.heap.size < w'.heap.size ∧ Below w.heap.size w w'
def FReadIs (r : (Int × Int) × List Step) (w : World) (e : Ending) (w' : World) : Prop :=
 ∃ v, e = .returned (.tuple #[v, .agg #[.int .i64 r.1.1, .int .i64 r.1.2]]) ∧ w'.ownsRow w.heap.size 110 6 v r.2.length (rowOf r.2) ∧ Below w.heap.size w w'
def frow (l : List (List UInt8)) : List Value := l.map fun x => .string (bs x)
theorem frow_snoc (l : List (List UInt8)) (x : List UInt8) : frow (l ++ [x]) = frow l ++ [.string (bs x)] := by simp [frow]
theorem finfoStr : ((Tryz.prog).info? 9).map (fun i => (i.zero, i.size, i.bytes)) = some (some (.string ⟨#[]⟩), 1, 16) := by kernel_rfl
theorem finfoStep : ((Tryz.prog).info? 110).map (fun i => (i.zero, i.size, i.bytes)) = some (some (.agg #[.int .i64 0, .int .i64 0, .int .i64 0, .bool false, .int .i64 0, .int .i64 0]), 6, 48) := by kernel_rfl
theorem fowns_later {w w' : World} {base : Nat} {e : TypeId} {size : Nat} {v : Value} {n : Nat} {xs : List Value} (h : w.ownsRow base e size v n xs) (hb : Below w.heap.size w w') : w'.ownsRow base e size v n xs := by
 have hl := h.lt
 refine ⟨h.1, ?_⟩
 rcases h.2 with hn | ⟨g, cap, cur, rfl, hb', hgg, rest⟩
 ·exact .inl hn
 ·exact .inr ⟨g, cap, cur, rfl, hb', (hb.block g (hl g rfl).2).trans hgg, rest⟩
theorem frow_base {w : World} {base base' : Nat} {e : TypeId} {size : Nat} {v : Value} {n : Nat} {xs : List Value} (h : w.ownsRow base e size v n xs) (hb : base' ≤ base) : w.ownsRow base' e size v n xs := by
 refine ⟨h.1, ?_⟩
 rcases h.2 with hn | ⟨g, cap, cur, rfl, hb', rest⟩
 ·exact .inl hn
 ·exact .inr ⟨g, cap, cur, rfl, Nat.le_trans hb hb', rest⟩
theorem frow_set {w : World} {base b o : Nat} {e : TypeId} {size : Nat} {v : Value} {n : Nat} {xs : List Value} (h : w.ownsRow base e size v n xs) (hb : b < base) (u : Value) : (w.setCell ⟨b, o, none⟩ u).ownsRow base e size v n xs := by
 refine ⟨h.1, ?_⟩
 rcases h.2 with hn | ⟨g, cap, cur, rfl, hb', hgg, rest⟩
 ·exact .inl hn
 ·exact .inr ⟨g, cap, cur, rfl, hb', (Below.heap_setCell w _ u g (by simp; omega)).trans hgg, rest⟩
theorem fown_form {w : World} {base : Nat} {e : TypeId} {size : Nat} {v : Value} {n : Nat} {xs : List Value} (h : w.ownsRow base e size v n xs) : ∃ og cap, v = .slice og n cap := by
 rcases h.2 with ⟨rfl, rfl⟩ | ⟨g, cap, _, rfl, _⟩
 ·exact ⟨_, _, rfl⟩
 ·exact ⟨_, _, rfl⟩
theorem frow_cells {w : World} {base : Nat} {e : TypeId} {g m cap : Nat} {l : List (List UInt8)} (h : w.ownsRow base e 1 (.slice (some ⟨g, 0, none⟩) m cap) m (frow l)) : ∀ (j : Nat) x, l[j]? = some x → w.cell? ⟨g, j, none⟩ = some (.string (bs x)) := by
 intro j x hj
 have h1 := h.cells (g := g) rfl j (.string (bs x)) (by simp [frow, hj])
 have hadd : ∀ k, (⟨g, 0, none⟩ : Addr).add k = ⟨g, k, none⟩ := fun k => by unfold Addr.add; split <;> simp_all
 rwa [hadd] at h1
theorem fread_bad {s : List UInt8} {k : Nat} {L : List Step} {x : List UInt8} (hL : rgo [] ((cut1 59 s).take k) = .ok L) (hx : (cut1 59 s)[k]? = some x) (hk : L.length = k) (hr : rone (wds x) = none) : rread s = ((3, (k : Int)), []) := by
 have h1 : rgo [] ((cut1 59 s).take (k + 1)) = .error k := by
  rw [List.take_add_one, hx]
  have := rgo_bad hL hr
  rwa [hk] at this
 unfold rread
 rw [rgo_err (List.take_prefix (k + 1) _) h1]
theorem fread_next {s : List UInt8} {k : Nat} {L : List Step} {x : List UInt8} {t : Step} (hL : rgo [] ((cut1 59 s).take k) = .ok L) (hx : (cut1 59 s)[k]? = some x) (hr : rone (wds x) = some t) : rgo [] ((cut1 59 s).take (k + 1)) = .ok (L ++ [t]) := by
 rw [List.take_add_one, hx]
 exact rgo_ok hL hr
theorem fread_ok {s : List UInt8} {L : List Step} (hL : rgo [] (cut1 59 s) = .ok L) (h : (check (nth L) L.length).1 = 0) : rread s = ((0, -1), L) := by
 unfold rread; rw [hL]; simp only; rw [if_neg (by simp [h])]
theorem fread_chk {s : List UInt8} {L : List Step} (hL : rgo [] (cut1 59 s) = .ok L) (h : ¬ (check (nth L) L.length).1 = 0) : rread s = (check (nth L) L.length, []) := by
 unfold rread; rw [hL]; simp only; rw [if_pos h]
/-- the end with an error -/
theorem fread_end {w W : World} {e p : Int} {r : (Int × Int) × List Step} (hr : r = ((e, p), [])) (hb : Below w.heap.size w W) : FReadIs r w (.returned (.tuple #[.slice none 0 0, .agg #[.int .i64 e, .int .i64 p]])) W := by
 subst hr
 exact ⟨_, rfl, World.ownsRow_nil _ _ _ _, hb⟩
theorem fc6_one (t : Step) : ∀ u ∈ c6 t, u.oneCell' = true := by
 intro u hu
 simp only [c6, List.mem_cons, List.not_mem_nil, or_false] at hu
 rcases hu with rfl | rfl | rfl | rfl | rfl | rfl <;> rfl
theorem FCheck_row (L : List Step) (v : Value) {base : Nat} (W : World) (hr : W.ownsRow base 110 6 v L.length (rowOf L)) : Calls Tryz.prog 35 #[v] W fun e W' => e = .returned (.agg #[.int .i64 (check (nth L) L.length).1, .int .i64 (check (nth L) L.length).2]) ∧ Below W.heap.size W W' := by
 have hcap : ∃ og cap, v = .slice og L.length cap ∧ L.length ≤ cap ∧ (1 ≤ L.length → ∃ a, og = some a ∧ Cells W a (nth L) L.length) := by
  have hrc := hr
  rcases hr.2 with ⟨rfl, h0⟩ | ⟨g, cap, cur, rfl, _, _, hc, _⟩
  ·exact ⟨none, 0, by rw [h0], by omega, fun h => by omega⟩
  ·exact ⟨_, cap, rfl, hc, fun _ => ⟨_, rfl, row_cells rfl hrc⟩⟩
 obtain ⟨og, cap, rfl, hle, hc⟩ := hcap
 unfold check
 by_cases h : L.length < 1 ∨ 200 < L.length
 ·rw [if_pos h]
  exact RefCheck_limit og L.length cap h hle W
 ·rw [if_neg h]
  obtain ⟨a, rfl, hcs⟩ := hc (by omega)
  exact RefCheck_some a L.length cap (nth L) (by omega) (by omega) hle W hcs
/-- the words of the parts so far -/
def ws (x : List UInt8) (k : Nat) : List (List UInt8) := ((cut1 32 x).take k).filter fun y => !y.isEmpty
theorem ws_succ {x : List UInt8} {k : Nat} {y : List UInt8} (h : (cut1 32 x)[k]? = some y) : ws x (k + 1) = if y = [] then ws x k else ws x k ++ [y] := by
 unfold ws
 rw [List.take_add_one, h, List.filter_append, Option.toList_some]
 by_cases e : y = []
 ·subst e; simp
 ·rw [if_neg e, List.filter_cons, if_pos (by cases y; exact absurd rfl e; rfl)]; rfl
theorem ws_end (x : List UInt8) : ws x (cut1 32 x).length = wds x := by unfold ws wds; rw [List.take_length]
theorem ws_len (x : List UInt8) (k : Nat) : (ws x k).length ≤ x.length + 1 := by
 unfold ws
 have h1 := List.length_filter_le (fun y : List UInt8 => !y.isEmpty) ((cut1 32 x).take k)
 have h2 := cut1_length 32 x
 have h3 := List.count_le_length (a := (32 : UInt8)) (l := x)
 simp at h1
 omega
set_option maxRecDepth 100000 in
set_option maxHeartbeats 16000000 in
theorem FRead_of (HX : SplitOne) (s : List UInt8) (hs : s.length ≤ 90000) (w : World) (h : RTabs w) (hf : FTabs w) : Calls Tryz.prog 14 #[.string (bs s)] w (FReadIs (rread s) w) := by
 have H := Lib.hid h
 have HF := Lib.hid hf
 clear h hf
 obtain ⟨i0, hi, hz0, hz1, hz2⟩ := info_parts finfoStr
 obtain ⟨i1, hi', hz0', hz1', hz2'⟩ := info_parts finfoStep
 go_enter Tryz.func14, Tryz.ntmps14
 go_upto_region 2 with fail
 generalize hW : World.alloc w _ = w1
 have hb1 : Below w.heap.size w w1 := hW ▸ ((Below.refl w.heap.size w).alloc (Nat.le_refl _) _)
 have IR1 : P.Img w1 w.heap.size 2 (fun _ => .int .i64 0) := hW ▸ Img.of_cells (heap_alloc_new w _) rfl (fun j hj => by have hj : j < 2 := hj; rcases (by omega : j = 0 ∨ j = 1) with rfl | rfl <;> rfl)
 have hs1 : w1.heap.size = w.heap.size + 1 := by rw [← hW]; simp
 have HIR1 := Lib.hid IR1
 have HB1 := Lib.hid hb1
 clear hW hb1 IR1
 have hCL : (cut1 59 s).length ≤ 90001 := by
  have h2 := cut1_length 59 s
  have h3 := List.count_le_length (a := (59 : UInt8)) (l := s)
  omega
 go_wp2_with fail
 refine (HX s 59 _ (by omega)).mono ?_
 rintro e w2 ⟨rfl, hcs, hz, hb⟩
 have HCS := Lib.hid hcs
 have HB2 := Lib.hid (HB1.out.trans (hb.mono HB1.out.size))
 have HIR2 := Lib.hid (HIR1.out.later hb (by omega))
 generalize hG : w1.heap.size = G at hcs hz hb HCS
 clear hb hcs HIR1
 obtain ⟨n, hn⟩ : ∃ n, (cut1 59 s).length = n := ⟨_, rfl⟩
 rw [hn] at hCL
 have HN := Lib.hid hn
 simp only [hn]
 clear hn
 go_wp2_with fail
 go_loopw [16, 4] (fun i lv wr => ∃ (k : Nat) (L : List Step), k ≤ n ∧ i = .int .i64 k ∧ rgo [] ((cut1 59 s).take k) = .ok L ∧ wr.ownsRow w2.heap.size 110 6 lv L.length (rowOf L) ∧ Below w2.heap.size w2 wr) (fun i _ _ => n - (intOf i).toNat)
 case atStart => exact ⟨0, [], by omega, rfl, rfl, World.ownsRow_nil _ _ _ _, Below.refl _ _⟩
 case round =>
  obtain ⟨k, L, hk, rfl, hL, hrow, hB⟩ := hrel
  obtain ⟨wo, hwo⟩ : ∃ z, z = wr := ⟨_, rfl⟩
  subst hwo
  obtain ⟨og, cap, rfl⟩ := fown_form hrow
  have hLl : L.length ≤ 90001 := by
   have h1 := rgo_len _ [] L hL
   simp at h1; omega
  have HROW := Lib.hid hrow
  have HL := Lib.hid hL
  have HBr := Lib.hid hB
  have hzr := hB.size
  clear hrow hL hB
  by_cases h : k < n
  ·have hk1 : (k : Int) < n := by omega
   obtain ⟨x, hx⟩ : ∃ x, (cut1 59 s)[k]? = some x := ⟨_, List.getElem?_eq_getElem (by rw [HN.out]; exact h)⟩
   have hxl : x.length ≤ 90000 := Nat.le_trans (cut1_part 59 s x (List.mem_of_getElem? hx)) hs
   have cx : wo.cell? ⟨G, k, none⟩ = some (.string (bs x)) := (HBr.out.cell (p := ⟨G, k, none⟩) hz).trans (HCS.out k x hx)
   have HXX := Lib.hid hx
   have HIRr := Lib.hid (HIR2.out.later (HBr.out) (by omega))
   have HBwr := Lib.hid (HB2.out.trans (HBr.out.mono HB2.out.size))
   clear hx
   go_wp2_with fail
   refine (HX x 32 _ (by omega)).mono ?_
   rintro e w3 ⟨rfl, hcs3, hz3, hb3⟩
   have HCS3 := Lib.hid hcs3
   have HB3 := Lib.hid hb3
   obtain ⟨m, hm⟩ : ∃ m, (cut1 32 x).length = m := ⟨_, rfl⟩
   have hml : m ≤ 90001 := by
    have h2 := cut1_length 32 x
    have h3 := List.count_le_length (a := (32 : UInt8)) (l := x)
    omega
   have HM := Lib.hid hm
   simp only [hm]
   clear hm hcs3 hb3
   go_wp2_with fail
   go_loopw [24, 7] (fun i lv wy => ∃ j : Nat, j ≤ m ∧ i = .int .i64 j ∧ wy.ownsRow w3.heap.size 9 1 lv (ws x j).length (frow (ws x j)) ∧ Below w3.heap.size w3 wy) (fun i _ _ => m - (intOf i).toNat)
   case atStart => exact ⟨0, by omega, rfl, World.ownsRow_nil _ _ _ _, Below.refl _ _⟩
   case round =>
    obtain ⟨j, hj, rfl, hrow3, hB3⟩ := hrel
    obtain ⟨og3, cap3, rfl⟩ := fown_form hrow3
    have hwl := ws_len x j
    have HROW3 := Lib.hid hrow3
    have HB4 := Lib.hid hB3
    have hz4 := hB3.size
    clear hrow3 hB3
    by_cases hj3 : j < m
    ·have hj1 : (j : Int) < m := by omega
     obtain ⟨y, hy⟩ : ∃ y, (cut1 32 x)[j]? = some y := ⟨_, List.getElem?_eq_getElem (by rw [HM.out]; exact hj3)⟩
     have hws := ws_succ hy
     have cy := (HB4.out.cell (p := ⟨wo.heap.size, j, none⟩) hz3).trans (HCS3.out j y hy)
     have hyl : y.length ≤ 90000 := Nat.le_trans (cut1_part 32 x y (List.mem_of_getElem? hy)) hxl
     clear hy
     by_cases he : y = []
     ·rw [if_pos he] at hws
      have HWS := Lib.hid hws
      clear hws
      subst he
      have hb' : (bs []).toList.isEmpty = true := by rw [ByteArray.toList_eq, bs_data]; rfl
      go_wp2_with fail
      go_roundw
      case rel => exact ⟨j + 1, by omega, by go_num, by rw [HWS.out]; exact HROW3.out, HB4.out⟩
      case measure => simp [intOf]; omega
     ·rw [if_neg he] at hws
      have HWS := Lib.hid hws
      have hb' : (bs y).toList.isEmpty = false := by
       rw [ByteArray.toList_eq, bs_data]; cases y; exact absurd rfl he; rfl
      clear hws he
      go_wp2_with (at_builtin; refine wpList_append_lies _ (by rfl) (.tmp 30) (.tmp 32) 107 (by rfl) w3.heap.size 9 i0 _ 1 16 Tryz.underlying107 hi hz0 hz1 hz2 rfl (by omega) (.slice og3 (ws x j).length cap3) (ws x j).length (frow (ws x j)) (by rfl) (HROW3.out.alloc _) ⟨wr.heap.size, 0, none⟩ 1 1 [.string (bs y)] (by rfl) (by rfl) (World.news_of_block (cs := #[.string (bs y)]) (t := 9) (fr := (0, 0)) (heap_alloc_new wr _)) (by simp [Value.oneCell']) (by omega) (by unfold maxLen; omega) (by omega) (by simp; omega) (wr.heap.size + 1) (by simp) ?_; intro g4 cap4 w4 hown4 hgrow4 _ _)
      go_roundw
      case rel =>
       go_light
       refine ⟨j + 1, by omega, by go_num, ?_, ?_⟩
       ·rw [HWS.out, frow_snoc]
        simp only [List.length_append, List.length_singleton]
        exact hown4
       ·exact Below.grown (HB4.out.alloc hz4 _) hgrow4 (by simp; omega) (fun b hb => (HROW3.out.lt b hb).1)
      case measure => simp [intOf]; omega
    ·obtain rfl : j = m := by omega
     have hwe : ws x j = wds x := by rw [← HM.out]; exact ws_end x
     have hrow4 := HROW3.out
     rw [hwe] at hrow4 hwl
     have HROW4 := Lib.hid hrow4
     have HB5 := Lib.hid (HBwr.out.trans ((HB3.out.trans (HB4.out.mono HB3.out.size)).mono HBwr.out.size))
     have HIR5 := Lib.hid (HIRr.out.later (HB3.out.trans (HB4.out.mono HB3.out.size)) (HIRr.out.lt (by omega)))
     have hkl : L.length = k := by
      have h1 := rgo_len _ [] L HL.out
      simp at h1
      have := HN.out; omega
     have HKL := Lib.hid hkl
     clear hkl
     rw [hwe]
     generalize hwd : wds x = W at hrow4 hwl HROW4
     have HWD := Lib.hid hwd
     clear hrow4 hwe HROW3 hwd
     have a0 := HIR5.out.cell 0 (by omega)
     have a1 := HIR5.out.cell 1 (by omega)
     have f0 := HIR5.out.free 0 (by omega)
     have f1 := HIR5.out.free 1 (by omega)
     cases W with
     | nil =>
      go_wp2_with fail
      refine bodyPost_ret (v := .tuple #[.slice none 0 0, .agg #[.int .i64 3, .int .i64 k]]) ?_ rfl (fread_end (fread_bad HL.out HXX.out HKL.out (by rw [HWD.out]; rfl)) (by repeat' (first | with_reducible exact HB5.out | with_reducible refine Below.setCell ?_ ?_ _ | with_reducible refine Below.alloc ?_ ?_ _ | (simp; done) | (simp; omega) | omega)))
      simp [results, Tryz.results14, go_sem, a0, a1, f0, f1]
     | cons y r =>
      obtain ⟨g3, rfl⟩ : ∃ g, og3 = some ⟨g, 0, none⟩ := by
       rcases HROW4.out.2 with ⟨_, h0⟩ | ⟨g, cap', cur, h0, _⟩
       ·simp at h0
       ·injection h0 with h0; exact ⟨g, h0⟩
      have hyr : ∀ z ∈ y :: r, z.length ≤ 100000 := fun z hz => by
       have := wds_part (HWD.out ▸ hz : z ∈ wds x); omega
      have hrl : r.length ≤ 100000 := by simp at hwl; omega
      have CALL := FReads_any y r g3 cap3 hrl hyr wr (H.out.later HB5.out) (HF.out.later HB5.out) (fun j hj => by
       obtain ⟨z, hz⟩ : ∃ z, (y :: r)[j]? = some z := ⟨_, List.getElem?_eq_getElem (by simpa using hj)⟩
       rw [List.getD_eq_getElem?_getD, hz]
       exact frow_cells HROW4.out j z hz)
      rw [refOne_rone, ← HWD.out] at CALL
      have HCALL := Lib.hid CALL
      clear CALL hyr a0 a1 f0 f1
      simp only [List.length_cons] at hwl ⊢
      go_wp2_with fail
      refine HCALL.out.mono ?_
      rintro e w4 ⟨⟨t, b, rfl, hone⟩, hb4⟩
      have HONE := Lib.hid hone
      have HB44 := Lib.hid hb4
      have HB6 := Lib.hid (HB5.out.trans (hb4.mono HB5.out.size))
      have HIR6 := Lib.hid (HIR5.out.later hb4 (HIR5.out.lt (by omega)))
      have a0 := HIR6.out.cell 0 (by omega)
      have a1 := HIR6.out.cell 1 (by omega)
      have f0 := HIR6.out.free 0 (by omega)
      have f1 := HIR6.out.free 1 (by omega)
      have hwz : w.heap.size < w4.heap.size := HIR6.out.lt (by omega)
      clear hone hb4 HCALL
      cases b with
      | false =>
       go_wp2_with fail
       refine bodyPost_ret (v := .tuple #[.slice none 0 0, .agg #[.int .i64 3, .int .i64 k]]) ?_ rfl (fread_end (fread_bad HL.out HXX.out HKL.out (by rw [HONE.out]; simp)) (by repeat' (first | with_reducible exact HB6.out | with_reducible refine Below.setCell ?_ ?_ _ | with_reducible refine Below.alloc ?_ ?_ _ | (simp; done) | (simp; omega) | omega)))
       simp [results, Tryz.results14, go_sem, a0, a1, f0, f1, hwz]
      | true =>
       have HROW6 := Lib.hid (fowns_later (fowns_later HROW.out (HB3.out.trans (HB4.out.mono HB3.out.size))) HB44.out)
       have hz6 : w2.heap.size ≤ w4.heap.size := Nat.le_trans hzr (Nat.le_trans HB3.out.size (Nat.le_trans hz4 HB44.out.size))
       clear a0 a1 f0 f1
       go_wp2_with (at_builtin; refine wpList_append_lies _ (by rfl) (.tmp 49) (.tmp 51) 33 (by rfl) w2.heap.size 110 i1 _ 6 48 Tryz.underlying33 hi' hz0' hz1' hz2' rfl (by omega) (.slice og L.length cap) L.length (rowOf L) (by rfl) ((HROW6.out.alloc _).alloc _) ⟨w4.heap.size + 1, 0, none⟩ 1 1 (c6 t) (by rfl) (by rfl) (World.news_of_block (cs := #[.int .i64 t.code, .int .i64 t.dst, .int .i64 t.src, .bool t.reg, .int .i64 t.off, .int .i64 t.num]) (t := 110) (fr := (0, 0)) (by simpa using heap_alloc_new (World.alloc w4 _) _)) (fc6_one t) (by omega) (by unfold maxLen; omega) (by omega) (by simp; omega) (w4.heap.size + 1 + 1) (by simp) ?_; intro g7 cap7 w7 hown7 hgrow7 _ _)
       go_roundw
       case rel =>
        go_light
        refine ⟨k + 1, L ++ [t], by omega, by go_num, fread_next HL.out HXX.out (by rw [HONE.out]; rfl), ?_, ?_⟩
        ·rw [rowOf_snoc, List.length_append]
         exact hown7
        ·exact Below.grown (((HBr.out.trans (((HB3.out.trans (HB4.out.mono HB3.out.size)).trans (HB44.out.mono (Nat.le_trans HB3.out.size hz4))).mono hzr)).alloc hz6 _).alloc (by simp; omega) _) hgrow7 (by simp; omega) (fun b hb => (HROW6.out.lt b hb).1)
       case measure => simp [intOf]; omega
  ·obtain rfl : k = n := by omega
   have hall := HL.out
   rw [← HN.out, List.take_length] at hall
   have HALL := Lib.hid hall
   have CK := FCheck_row L _ wo HROW.out
   obtain ⟨C, hC⟩ : ∃ C, check (nth L) L.length = C := ⟨_, rfl⟩
   rw [hC] at CK
   have HC := Lib.hid hC
   have HCK := Lib.hid CK
   obtain ⟨ce, cp⟩ := C
   clear hC CK hall
   go_wp2_with fail
   refine HCK.out.mono ?_
   rintro e w3 ⟨rfl, hb3⟩
   have HB3 := Lib.hid (HB2.out.trans ((HBr.out.trans (hb3.mono HBr.out.size)).mono HB2.out.size))
   have HIR3 := Lib.hid ((HIR2.out.later HBr.out (by omega)).later hb3 (by omega))
   have HROW3 := Lib.hid (fowns_later HROW.out hb3)
   have hw2 : w.heap.size < w2.heap.size := HIR2.out.lt (by omega)
   have a0 := HIR3.out.cell 0 (by omega)
   have a1 := HIR3.out.cell 1 (by omega)
   have f0 := HIR3.out.free 0 (by omega)
   have f1 := HIR3.out.free 1 (by omega)
   have hwz : w.heap.size < w3.heap.size := HIR3.out.lt (by omega)
   clear hb3 HCK
   by_cases hce : ce = 0
   ·subst hce
    have hr : rread s = ((0, -1), L) := fread_ok HALL.out (by rw [HC.out])
    have HR := Lib.hid hr
    clear hr
    go_wp2_with fail
    refine (Bare_any _ _).mono ?_
    rintro e w4 ⟨rfl, hb4⟩
    generalize hW : World.alloc w3 _ = w5 at hb4
    have hb5 : Below w3.heap.size w3 w5 := hW ▸ ((Below.refl w3.heap.size w3).alloc (Nat.le_refl _) _)
    have hb6 := hb5.trans (hb4.mono hb5.size)
    have HB6 := Lib.hid (HB3.out.trans (hb6.mono HB3.out.size))
    have HIR6 := Lib.hid (HIR3.out.later hb6 (by omega))
    have HROW6 := Lib.hid (fowns_later HROW3.out hb6)
    have b0 := HIR6.out.cell 0 (by omega)
    have b1 := HIR6.out.cell 1 (by omega)
    have g0 := HIR6.out.free 0 (by omega)
    have g1 := HIR6.out.free 1 (by omega)
    have hwz6 : w.heap.size < w4.heap.size := HIR6.out.lt (by omega)
    clear hW hb4 hb5 hb6 a0 a1 f0 f1
    go_wp2_with fail
    refine bodyPost_ret (v := .tuple #[.slice og L.length cap, .agg #[.int .i64 0, .int .i64 (-1)]]) ?_ rfl ?_
    ·simp [results, Tryz.results14, go_sem, b0, b1, g0, g1, hwz6]
    ·rw [HR.out]
     refine ⟨_, rfl, ?_, (by repeat' (first | with_reducible exact HB6.out | with_reducible refine Below.drew ?_ | with_reducible refine Below.setCell ?_ ?_ _ | with_reducible refine Below.alloc ?_ ?_ _ | (simp; done) | (simp; omega) | omega))⟩
     exact frow_base (frow_set (frow_set HROW6.out hw2 _) hw2 _) HB2.out.size
   ·have hce' : (ce == 0) = false := by simpa using hce
    have hr : rread s = ((ce, cp), []) := by rw [fread_chk HALL.out (by rw [HC.out]; exact hce), HC.out]
    have HR := Lib.hid hr
    clear hr
    go_wp2_with fail
    go_region
    all_goals
     go_wp2_with fail
     refine bodyPost_ret (v := .tuple #[.slice none 0 0, .agg #[.int .i64 ce, .int .i64 cp]]) ?_ rfl (fread_end HR.out (by repeat' (first | with_reducible exact HB3.out | with_reducible refine Below.drew ?_ | with_reducible refine Below.setCell ?_ ?_ _ | with_reducible refine Below.alloc ?_ ?_ _ | (simp; done) | (simp; omega) | omega)))
     simp [results, Tryz.results14, go_sem, a0, a1, f0, f1, hwz]
end Go.Proofs.YtglilddlhibogaaGreatDoor.W
