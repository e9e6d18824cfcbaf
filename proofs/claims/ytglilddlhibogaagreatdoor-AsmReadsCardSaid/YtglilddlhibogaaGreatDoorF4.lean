/- The reference's reading of a step. Conditions: the tables that reading reads, and the reference's own, lie in the world; the words' cells are known. -/
import Derived.Test.YtglilddlhibogaaGreatDoorF3
import Derived.Test.YtglilddlhibogaaGreatDoorWalkRef
import Derived.Test.YtglilddlhibogaaGreatDoorN3
namespace Go.Proofs.YtglilddlhibogaaGreatDoor.W
open Go.RowKit Go.Proofs.YtglilddlhibogaaGreatDoor.P
set_option linter.unusedSimpArgs false
set_option linter.unusedVariables false

theorem FMakes_any (c : Int) (w : World) : Calls Tryz.prog 57 #[.int .i64 c] w fun e w' => e = .returned (.bool (decide (1 ≤ c) && decide (c ≤ 12))) ∧ w = w' := by
 go_enter Tryz.func57, Tryz.ntmps57
 go_wp2_with (go_at_call 50; refine (In_any _ _ _ _).mono ?_; rintro e w' ⟨rfl, rfl⟩)
 go_ret
 exact ⟨rfl, rfl⟩
theorem form_len (c : Int) : (form c).length ≤ 3 := by
 unfold form
 repeat' split
 all_goals simp
/-- a step's cells in a block of its own -/
structure SBox (w : World) (b : Nat) (s : Step) : Prop where
 c0 : w.cell? ⟨b, 0, none⟩ = some (.int .i64 s.code)
 c1 : w.cell? ⟨b, 1, none⟩ = some (.int .i64 s.dst)
 c2 : w.cell? ⟨b, 2, none⟩ = some (.int .i64 s.src)
 c3 : w.cell? ⟨b, 3, none⟩ = some (.bool s.reg)
 c4 : w.cell? ⟨b, 4, none⟩ = some (.int .i64 s.off)
 c5 : w.cell? ⟨b, 5, none⟩ = some (.int .i64 s.num)
 fr : ∀ j, w.frozen? ⟨b, j, none⟩ = false
theorem SBox.code {w : World} {b : Nat} {s : Step} (h : SBox w b s) (c : Int) : SBox (w.setCell ⟨b, 0, none⟩ (.int .i64 c)) b { s with code := c } := by
 obtain ⟨c0, c1, c2, c3, c4, c5, fr⟩ := h
 have f0 := fr 0
 exact ⟨by simp [go_sem, *], by simp [go_sem, *], by simp [go_sem, *], by simp [go_sem, *], by simp [go_sem, *], by simp [go_sem, *], fun j => by simp [go_sem, *]⟩
theorem SBox.img {w : World} {b : Nat} {s : Step} (h : SBox w b s) : P.Img w b 6 (nimg s) := by
 intro j hj
 refine ⟨?_, h.fr j⟩
 rcases j with _ | _ | _ | _ | _ | _ | j
 ·exact h.c0
 ·exact h.c1
 ·exact h.c2
 ·exact h.c3
 ·exact h.c4
 ·exact h.c5
 ·omega
theorem SBox.sets {w : World} {b : Nat} {s : Step} (h : SBox w b s) (n : Int) (q : Bool) : SBox (w.setCell ⟨b, 1, none⟩ (.int .i64 n)) b { s with dst := n } ∧ SBox (w.setCell ⟨b, 2, none⟩ (.int .i64 n)) b { s with src := n } ∧ SBox (w.setCell ⟨b, 3, none⟩ (.bool q)) b { s with reg := q } ∧
  SBox (w.setCell ⟨b, 4, none⟩ (.int .i64 n)) b { s with off := n } ∧ SBox (w.setCell ⟨b, 5, none⟩ (.int .i64 n)) b { s with num := n } := by
 obtain ⟨c0, c1, c2, c3, c4, c5, fr⟩ := h
 have f1 := fr 1; have f2 := fr 2; have f3 := fr 3; have f4 := fr 4; have f5 := fr 5
 refine ⟨?_, ?_, ?_, ?_, ?_⟩
 all_goals exact ⟨by simp [go_sem, *], by simp [go_sem, *], by simp [go_sem, *], by simp [go_sem, *], by simp [go_sem, *], by simp [go_sem, *], fun j => by simp [go_sem, *]⟩
theorem SBox.later {w w' : World} {b : Nat} {s : Step} (h : SBox w b s) (hb : Below w.heap.size w w') : SBox w' b s := by
 have hl := block_lt_of_cell h.c0
 exact ⟨(hb.cell (p := ⟨b, 0, none⟩) hl).trans h.c0, (hb.cell (p := ⟨b, 1, none⟩) hl).trans h.c1, (hb.cell (p := ⟨b, 2, none⟩) hl).trans h.c2, (hb.cell (p := ⟨b, 3, none⟩) hl).trans h.c3, (hb.cell (p := ⟨b, 4, none⟩) hl).trans h.c4, (hb.cell (p := ⟨b, 5, none⟩) hl).trans h.c5, fun j => (hb.frozen (p := ⟨b, j, none⟩) hl).trans (h.fr j)⟩
theorem setCell_frm' (w : World) (b j : Nat) (v : Value) : Below b w (w.setCell ⟨b, j, none⟩ v) := (Below.refl b w).setCell (p := ⟨b, j, none⟩) (Nat.le_refl _) v
theorem form_mem {c : Int} {f : UInt8} (h : f ∈ form c) : f = 100 ∨ f = 50 ∨ f = 111 ∨ f = 108 ∨ f = 115 ∨ f = 99 := by
 unfold form at h
 repeat' split at h
 all_goals simp only [List.mem_cons, List.not_mem_nil, or_false] at h
 all_goals first | (rcases h with rfl | rfl | rfl <;> simp; done) | (rcases h with rfl | rfl <;> simp; done) | (subst h; simp; done) | exact h.elim
def FStepIs (o : Option Step) (w : World) (e : Ending) (w' : World) : Prop :=
 (∃ s b, e = .returned (.tuple #[.agg #[.int .i64 s.code, .int .i64 s.dst, .int .i64 s.src, .bool s.reg, .int .i64 s.off, .int .i64 s.num], .bool b]) ∧ o = if b = true then some s else none) ∧ Below w.heap.size w w'
set_option maxRecDepth 100000 in
set_option maxHeartbeats 16000000 in
theorem FReads_any (x : List UInt8) (r : List (List UInt8)) (g cap : Nat) (hl : r.length ≤ 100000) (hx : ∀ y ∈ x :: r, y.length ≤ 100000) (w : World) (h : RTabs w) (hf : FTabs w) (hw : ∀ j, j < r.length + 1 → w.cell? ⟨g, j, none⟩ = some (.string (bs ((x :: r).getD j [])))) :
  Calls Tryz.prog 34 #[.slice (some ⟨g, 0, none⟩) (r.length + 1) cap] w (FStepIs (refOne (x :: r)) w) := by
 have H := Lib.hid h
 have HF := Lib.hid hf
 have HX := Lib.hid hx
 have HWD := Lib.hid hw
 have x0 := hw 0 (by omega)
 clear h hf hx hw
 go_enter Tryz.func34, Tryz.ntmps34
 go_upto_region 1 with fail
 generalize hW : World.alloc w _ = w1
 have hS : SBox w1 w.heap.size ⟨0, 0, 0, false, 0, 0⟩ := by
  rw [← hW]
  exact ⟨by simp [go_sem], by simp [go_sem], by simp [go_sem], by simp [go_sem], by simp [go_sem], by simp [go_sem], fun j => by simp [go_sem]⟩
 have HS := Lib.hid hS
 clear hS
 have hb1 : Below w.heap.size w w1 := hW ▸ ((Below.refl w.heap.size w).alloc (Nat.le_refl _) _)
 have HF1 := Lib.hid (HF.out.later hb1)
 have HB1 := Lib.hid hb1
 clear hb1
 go_wp2_with (with_reducible refine wpList_load_at (by simp [go_sem]; done) 153 (.global 0) rfl 0 0 (by simp [go_sem]; done) wordsV _ HF1.out.wrange Tryz.underlying153 rfl size_words ?_)
 go_loopw [14] (fun i wr => ∃ k : Nat, k ≤ 29 ∧ i = .int .i64 k ∧ SBox wr w.heap.size ⟨lastm x k, 0, 0, false, 0, 0⟩ ∧ Below w.heap.size w wr) (fun i _ => 29 - (intOf i).toNat)
 case atStart => exact ⟨0, by omega, rfl, HS.out, HB1.out⟩
 case round =>
  obtain ⟨k, hk, rfl, hS, HB⟩ := hrel
  by_cases h : k < 29
  ·have hk1 : (k : Int) < 29 := by omega
   have ix := fun w => widx w k h
   have xr : wr.cell? ⟨g, 0, none⟩ = some (.string (bs x)) := (HB.cell (block_lt_of_cell x0)).trans x0
   have s0 := hS.c0
   have f0 := hS.fr 0
   have HSr := Lib.hid hS
   have HBr := Lib.hid HB
   clear hS HB x0
   by_cases h0 : k = 0
   ·have hk0 : ¬ (0 : Int) < (k : Int) := by omega
    have hm : lastm x (k + 1) = lastm x k := by rw [lastm]; rw [if_neg (fun hh => by omega)]
    have HM := Lib.hid hm
    clear hm h0
    go_wp2_with fail
    go_roundw
    case rel => exact ⟨k + 1, by omega, by go_num, HM.out ▸ HSr.out, HBr.out⟩
    case measure => simp [intOf]; omega
   ·have hk0 : (0 : Int) < (k : Int) := by omega
    simp only [rnm_pos k (by omega)] at ix
    by_cases he : x = nm k
    ·have hb' : ((bs x).toList == (bs (nm k)).toList) = true := by rw [he]; exact beq_self_eq_true _
     have hm : lastm x (k + 1) = k := by unfold lastm; rw [if_pos ⟨by omega, he⟩]
     have HM := Lib.hid hm
     clear hm he
     go_wp2_with fail
     go_roundw
     case rel =>
      refine ⟨k + 1, by omega, by go_num, ?_, HBr.out.setCell (p := ⟨w.heap.size, 0, none⟩) (Nat.le_refl _) _⟩
      rw [HM.out]
      exact HSr.out.code _
     case measure => simp [intOf]; omega
    ·have hb' : ((bs x).toList == (bs (nm k)).toList) = false := by
      rw [ByteArray.toList_eq, ByteArray.toList_eq, bs_data, bs_data]; exact beq_eq_false_iff_ne.2 he
     have hm : lastm x (k + 1) = lastm x k := by rw [lastm]; rw [if_neg (fun hh => he hh.2)]
     have HM := Lib.hid hm
     clear hm he
     go_wp2_with fail
     go_roundw
     case rel => exact ⟨k + 1, by omega, by go_num, HM.out ▸ HSr.out, HBr.out⟩
     case measure => simp [intOf]; omega
  ·obtain rfl : k = 29 := by omega
   rw [lastm_ncode] at hS
   have hc := ncode_lt x
   have HR0 : refOne (x :: r) = if ncode x = 0 ∨ r.length ≠ (form (ncode x)).length then none else refForm (form (ncode x)) r ⟨ncode x, 0, 0, false, 0, 0⟩ := rfl
   generalize ncode x = c at hS hc HR0
   have HR := Lib.hid HR0
   have HSr := Lib.hid hS
   have HBr := Lib.hid HB
   have s0 := hS.c0
   clear hS HB HR0
   go_upto_block 2 with fail
   go_cut [6] (fun p wx => p = .string (bs (form c)) ∧ SBox wx w.heap.size ⟨c, 0, 0, false, 0, 0⟩ ∧ Below w.heap.size w wx)
   case first =>
    as_aux_lemma =>
     rcases (show (1 ≤ c ∧ c ≤ 12) ∨ (15 ≤ c ∧ c ≤ 24) ∨ c = 13 ∨ c = 14 ∨ c = 25 ∨ c = 26 ∨ c = 27 ∨ c = 0 ∨ c = 28 by omega) with h | h | rfl | rfl | rfl | rfl | rfl | rfl | rfl
     ·have hf := form_make h
      have hd : (decide (1 ≤ c) && decide (c ≤ 12)) = true := by simp; omega
      go_wp2_with (go_at_call 57; refine (FMakes_any _ _).mono ?_; rintro e w' ⟨rfl, rfl⟩; rw [hd])
      go_meet
      exact ⟨by rw [hf]; rfl, HSr.out, HBr.out⟩
     ·have hf := form_ask h
      have hd : (decide (1 ≤ c) && decide (c ≤ 12)) = false := by simp; omega
      have ha : P.asks c = true := by rw [asks_of]; simp; omega
      have t13 : (c == 13) = false := by simp; omega
      have t14 : (c == 14) = false := by simp; omega
      go_wp2_with (first | (go_at_call 57; refine (FMakes_any _ _).mono ?_; rintro e w' ⟨rfl, rfl⟩; rw [hd]) | (go_at_call 58; refine (RefAsks_any _ _).mono ?_; rintro e w' ⟨rfl, rfl⟩; rw [ha]))
      go_meet
      exact ⟨by rw [hf]; rfl, HSr.out, HBr.out⟩
     all_goals
      go_wp2_with (first | (go_at_call 57; refine (FMakes_any _ _).mono ?_; rintro e w' ⟨rfl, rfl⟩) | (go_at_call 58; refine (RefAsks_any _ _).mono ?_; rintro e w' ⟨rfl, rfl⟩; rw [asks_of]))
      go_meet
      exact ⟨rfl, HSr.out, HBr.out⟩
   case rest =>
    obtain ⟨rfl, hS, hb⟩ := hcut
    obtain ⟨w5, hw5⟩ : ∃ y, y = wc := ⟨_, rfl⟩; subst hw5
    have s1 := hS.c1; have s2 := hS.c2; have s3 := hS.c3; have s4 := hS.c4; have s5 := hS.c5
    have s0' := hS.c0
    have f0 := hS.fr 0; have f1 := hS.fr 1; have f2 := hS.fr 2; have f3 := hS.fr 3; have f4 := hS.fr 4; have f5 := hS.fr 5
    have HS5 := Lib.hid hS
    have HB5 := Lib.hid hb
    have hfl : ((bs (form c)).size : Int) = (form c).length := by simp [bs, ByteArray.size]
    have hfb : (form c).length ≤ 3 := form_len c
    clear s0 hS hb
    by_cases hbad : c = 0 ∨ r.length ≠ (form c).length
    ·have hn : refOne (x :: r) = none := by rw [HR.out, if_pos hbad]
     have HN := Lib.hid hn
     clear hn
     by_cases h0 : c = 0
     ·subst h0
      go_wp2_with fail
      refine bodyPost_ret (results_cell_tmp Tryz.results34 (p := ⟨w.heap.size, 0, none⟩) (v := .agg #[.int .i64 0, .int .i64 0, .int .i64 0, .bool false, .int .i64 0, .int .i64 0]) (u := .bool false) (by simp [go_sem]) (by simp [go_sem]) ?_) rfl ?_
      ·exact nload (t := ⟨0, 0, 0, false, 0, 0⟩) (nput6 (t0 := ⟨0, 0, 0, false, 0, 0⟩) HS5.out.img ⟨0, 0, 0, false, 0, 0⟩)
      ·refine ⟨⟨⟨0, 0, 0, false, 0, 0⟩, false, rfl, by rw [HN.out]; simp⟩, ?_⟩
       repeat' (first | with_reducible exact HB5.out | with_reducible refine Below.setCell ?_ ?_ _ | (simp; done) | (simp; omega) | omega)
     ·have hne : ¬ ((r.length : Int) + 1 = ((form c).length : Int) + 1) := by omega
      have t0 : (c == 0) = false := by simp [h0]
      go_wp2_with fail
      refine bodyPost_ret (results_cell_tmp Tryz.results34 (p := ⟨w.heap.size, 0, none⟩) (v := .agg #[.int .i64 c, .int .i64 0, .int .i64 0, .bool false, .int .i64 0, .int .i64 0]) (u := .bool false) (by simp [go_sem]) (by simp [go_sem]) ?_) rfl ?_
      ·exact nload (t := ⟨c, 0, 0, false, 0, 0⟩) (nput6 (t0 := ⟨c, 0, 0, false, 0, 0⟩) HS5.out.img ⟨c, 0, 0, false, 0, 0⟩)
      ·refine ⟨⟨⟨c, 0, 0, false, 0, 0⟩, false, rfl, by rw [HN.out]; simp⟩, ?_⟩
       repeat' (first | with_reducible exact HB5.out | with_reducible refine Below.setCell ?_ ?_ _ | (simp; done) | (simp; omega) | omega)
    ·have h0 : c ≠ 0 := fun h => hbad (.inl h)
     have hrl : r.length = (form c).length := Classical.byContradiction fun h => hbad (.inr h)
     have hne : ((r.length : Int) + 1 = ((form c).length : Int) + 1) := by omega
     have t0 : (c == 0) = false := by simp [h0]
     have hn : refOne (x :: r) = refForm (form c) r ⟨c, 0, 0, false, 0, 0⟩ := by rw [HR.out, if_neg hbad]
     have HN := Lib.hid hn
     clear hn hbad
     go_wp2_with fail
     go_loopw [72] (fun i wr => ∃ (k : Nat) (t : Step), k ≤ (form c).length ∧ i = .int .i64 k ∧ SBox wr w.heap.size t ∧ refForm ((form c).drop k) (r.drop k) t = refOne (x :: r) ∧ Below w.heap.size w wr) (fun i _ => (form c).length - (intOf i).toNat)
     case atStart => exact ⟨0, _, by omega, rfl, HS5.out, by rw [HN.out]; rfl, HB5.out⟩
     case round =>
      obtain ⟨k, t, hk, rfl, hS, hF, hb⟩ := hrel
      by_cases h : k < (form c).length
      ·have hk1 : (k : Int) < (form c).length := by omega
       obtain ⟨f, hf⟩ : ∃ f, (form c)[k]? = some f := ⟨_, List.getElem?_eq_getElem h⟩
       obtain ⟨y, hy⟩ : ∃ y, r[k]? = some y := ⟨_, List.getElem?_eq_getElem (by omega)⟩
       have hfm := form_mem (List.mem_of_getElem? hf)
       have hyl : y.length ≤ 100000 := HX.out y (List.mem_cons_of_mem _ (List.mem_of_getElem? hy))
       have hd1 : (form c).drop k = f :: (form c).drop (k + 1) := by
        obtain ⟨h1, h2⟩ := List.getElem?_eq_some_iff.1 hf
        rw [List.drop_eq_getElem_cons h1, h2]
       have hd2 : r.drop k = y :: r.drop (k + 1) := by
        obtain ⟨h1, h2⟩ := List.getElem?_eq_some_iff.1 hy
        rw [List.drop_eq_getElem_cons h1, h2]
       rw [hd1, hd2] at hF
       have hw1 := HWD.out (k + 1) (by omega)
       have hyw : wr.cell? ⟨g, k + 1, none⟩ = some (.string (bs y)) := by
        rw [(hb.cell (p := ⟨g, k + 1, none⟩) (block_lt_of_cell hw1)).trans hw1]
        rw [List.getD_cons_succ, List.getD_eq_getElem?_getD, hy]; rfl
       have HSr := Lib.hid hS
       have HFr := Lib.hid hF
       have HBr := Lib.hid hb
       clear hS hF hb hd1 hd2 hy hw1 s1 s2 s3 s4 s5 s0' f0 f1 f2 f3 f4 f5
       go_upto_block 5 with fail
       have hby : ∀ (p : k < (bs (form c)).size), (bs (form c))[k]'p = f := fun p => by
        have h1 := (List.getElem?_eq_some_iff.1 hf)
        obtain ⟨h2, h3⟩ := h1
        exact h3
       simp only [hby]
       clear hby
       go_cut [9] (fun bv W => ∃ (b : Bool) (t' : Step), bv = .bool b ∧ putF f y t = (if b = true then some t' else none) ∧ SBox W w.heap.size t' ∧ Below w.heap.size w W)
       case first =>
        have HR := fun W (hb : Below w.heap.size w W) => FRegister_any y hyl W (H.out.later hb)
        have HNu := fun W (hb : Below w.heap.size w W) => FNumber_any y hyl W (H.out.later hb)
        have HPl := fun W (hb : Below w.heap.size w W) => FPlaced_any y hyl W (H.out.later hb)
        have HRh := Lib.hid HR
        have HNh := Lib.hid HNu
        have HPh := Lib.hid HPl
        have q0 := HSr.out.fr
        have f1 := q0 1; have f2 := q0 2; have f3 := q0 3; have f4 := q0 4; have f5 := q0 5
        clear HR HNu HPl q0
        rcases hfm with rfl | rfl | rfl | rfl | rfl | rfl
        ·as_aux_lemma =>
          go_wp2_with fail
          refine (HRh.out _ HBr.out).mono ?_
          rintro e w2 ⟨⟨n, b, rfl, -, ho⟩, hb2⟩
          have HS2 := Lib.hid (HSr.out.later hb2)
          have HB2 := Lib.hid (HBr.out.trans (hb2.mono HBr.out.size))
          have g1 := HS2.out.fr 1
          have c1 := HS2.out.c1
          have HO := Lib.hid ho
          clear ho hb2
          go_wp2_with fail
          go_meet
          refine ⟨b, _, rfl, ?_, (HS2.out.sets n true).1, HB2.out.trans ((setCell_frm' w2 w.heap.size 1 _).mono (Nat.le_refl _))⟩
          unfold putF
          rw [if_pos rfl, HO.out]
          cases b <;> rfl
        ·as_aux_lemma =>
          go_wp2_with fail
          refine (HNh.out _ HBr.out).mono ?_
          rintro e w2 ⟨⟨n, b, rfl, -, ho⟩, hb2⟩
          have HS2 := Lib.hid (HSr.out.later hb2)
          have HB2 := Lib.hid (HBr.out.trans (hb2.mono HBr.out.size))
          have HO := Lib.hid ho
          clear ho hb2
          have g1 := HS2.out.fr 1; have g2 := HS2.out.fr 2; have g3 := HS2.out.fr 3; have g4 := HS2.out.fr 4; have g5 := HS2.out.fr 5
          have c1 := HS2.out.c1; have c2 := HS2.out.c2; have c3 := HS2.out.c3; have c4 := HS2.out.c4; have c5 := HS2.out.c5
          cases b
          ·go_wp2_with fail
           have hbS : Below w.heap.size w ((w2.setCell ⟨w.heap.size, 5, none⟩ (.int .i64 n)).setCell ⟨w.heap.size, 5, none⟩ (.int .i64 0)) := (HB2.out.setCell (p := ⟨w.heap.size, 5, none⟩) (Nat.le_refl _) _).setCell (p := ⟨w.heap.size, 5, none⟩) (Nat.le_refl _) _
           refine (HRh.out _ hbS).mono ?_
           rintro e w3 ⟨⟨n2, b2, rfl, -, ho2⟩, hb3⟩
           have HS3 := Lib.hid (((((HS2.out.sets n true).2.2.2.2).sets 0 true).2.2.2.2).later hb3)
           have HB3 := Lib.hid (hbS.trans (hb3.mono hbS.size))
           have HO2 := Lib.hid ho2
           have k2 := HS3.out.fr 2; have k3 := HS3.out.fr 3
           have e2 := HS3.out.c2; have e3 := HS3.out.c3
           clear ho2 hb3 hbS g1 g2 g3 g4 g5 c1 c2 c3 c4 c5
           go_wp2_with fail
           go_meet
           refine ⟨b2, _, rfl, ?_, (((HS3.out.sets n2 true).2.1).sets 0 true).2.2.1, (HB3.out.setCell (p := ⟨w.heap.size, 2, none⟩) (Nat.le_refl _) _).setCell (p := ⟨w.heap.size, 3, none⟩) (Nat.le_refl _) _⟩
           unfold putF
           rw [if_neg (by decide), if_pos rfl, HO.out]
           simp only [Bool.false_eq_true, if_false]
           rw [HO2.out]
           cases b2 <;> rfl
          ·go_wp2_with fail
           go_meet
           refine ⟨true, _, rfl, ?_, (HS2.out.sets n true).2.2.2.2, HB2.out.setCell (p := ⟨w.heap.size, 5, none⟩) (Nat.le_refl _) _⟩
           unfold putF
           rw [if_neg (by decide), if_pos rfl, HO.out]
           rfl
        ·as_aux_lemma =>
          go_wp2_with fail
          refine (HNh.out _ HBr.out).mono ?_
          rintro e w2 ⟨⟨n, b, rfl, -, ho⟩, hb2⟩
          have HS2 := Lib.hid (HSr.out.later hb2)
          have HB2 := Lib.hid (HBr.out.trans (hb2.mono HBr.out.size))
          have HO := Lib.hid ho
          clear ho hb2
          have g1 := HS2.out.fr 1; have g2 := HS2.out.fr 2; have g3 := HS2.out.fr 3; have g4 := HS2.out.fr 4; have g5 := HS2.out.fr 5
          have c1 := HS2.out.c1; have c2 := HS2.out.c2; have c3 := HS2.out.c3; have c4 := HS2.out.c4; have c5 := HS2.out.c5
          go_wp2_with fail
          go_meet
          refine ⟨b, _, rfl, ?_, (HS2.out.sets n true).2.2.2.1, HB2.out.setCell (p := ⟨w.heap.size, 4, none⟩) (Nat.le_refl _) _⟩
          unfold putF
          rw [if_neg (by decide), if_neg (by decide), if_pos rfl, HO.out]
          cases b <;> rfl
        ·as_aux_lemma =>
          go_wp2_with fail
          refine (HPh.out _ HBr.out).mono ?_
          rintro e w2 ⟨⟨n1, n2, b, rfl, -, -, ho⟩, hb2⟩
          have HS2 := Lib.hid (HSr.out.later hb2)
          have HB2 := Lib.hid (HBr.out.trans (hb2.mono HBr.out.size))
          have HO := Lib.hid ho
          clear ho hb2
          have g1 := HS2.out.fr 1; have g2 := HS2.out.fr 2; have g3 := HS2.out.fr 3; have g4 := HS2.out.fr 4; have g5 := HS2.out.fr 5
          have c1 := HS2.out.c1; have c2 := HS2.out.c2; have c3 := HS2.out.c3; have c4 := HS2.out.c4; have c5 := HS2.out.c5
          go_wp2_with fail
          go_meet
          refine ⟨b, _, rfl, ?_, (((HS2.out.sets n1 true).2.1).sets n2 true).2.2.2.1, (HB2.out.setCell (p := ⟨w.heap.size, 2, none⟩) (Nat.le_refl _) _).setCell (p := ⟨w.heap.size, 4, none⟩) (Nat.le_refl _) _⟩
          unfold putF
          rw [if_neg (by decide), if_neg (by decide), if_neg (by decide), if_pos rfl, HO.out]
          cases b <;> rfl
        ·as_aux_lemma =>
          go_wp2_with fail
          refine (HPh.out _ HBr.out).mono ?_
          rintro e w2 ⟨⟨n1, n2, b, rfl, -, -, ho⟩, hb2⟩
          have HS2 := Lib.hid (HSr.out.later hb2)
          have HB2 := Lib.hid (HBr.out.trans (hb2.mono HBr.out.size))
          have HO := Lib.hid ho
          clear ho hb2
          have g1 := HS2.out.fr 1; have g2 := HS2.out.fr 2; have g3 := HS2.out.fr 3; have g4 := HS2.out.fr 4; have g5 := HS2.out.fr 5
          have c1 := HS2.out.c1; have c2 := HS2.out.c2; have c3 := HS2.out.c3; have c4 := HS2.out.c4; have c5 := HS2.out.c5
          go_wp2_with fail
          go_meet
          refine ⟨b, _, rfl, ?_, (((HS2.out.sets n1 true).1).sets n2 true).2.2.2.1, (HB2.out.setCell (p := ⟨w.heap.size, 1, none⟩) (Nat.le_refl _) _).setCell (p := ⟨w.heap.size, 4, none⟩) (Nat.le_refl _) _⟩
          unfold putF
          rw [if_neg (by decide), if_neg (by decide), if_neg (by decide), if_neg (by decide), if_pos rfl, HO.out]
          cases b <;> rfl
        ·as_aux_lemma =>
          have HFr1 := Lib.hid (HF.out.later HBr.out)
          have HY := Lib.hid (show putF 99 y t = some { t with num := if 0 < lastc y 4 then lastc y 4 else t.num } from rfl)
          clear f1 f2 f3 f4 f5
          go_wp2_with (with_reducible refine wpList_load_at (by simp [go_sem]; done) 160 (.global 1) rfl 1 0 (by simp [go_sem]; done) callsV _ HFr1.out.crange Tryz.underlying160 rfl size_calls ?_)
          go_loopw [141] (fun i wq => ∃ j : Nat, j ≤ 4 ∧ i = .int .i64 j ∧ SBox wq w.heap.size { t with num := if 0 < lastc y j then lastc y j else t.num } ∧ Below w.heap.size w wq) (fun i _ => 4 - (intOf i).toNat)
          case atStart => exact ⟨0, by omega, rfl, HSr.out, HBr.out⟩
          case round =>
           obtain ⟨j, hj, rfl, hS, hB⟩ := hrel
           by_cases hj4 : j < 4
           ·have hj1 : (j : Int) < 4 := by omega
            have ix := fun w => cidx w j hj4
            have c5 := hS.c5
            have f5 := hS.fr 5
            have HSq := Lib.hid hS
            have HBq := Lib.hid hB
            clear hS hB
            by_cases h0 : j = 0
            ·have hk0 : ¬ (0 : Int) < (j : Int) := by omega
             have HM := Lib.hid (show lastc y (j + 1) = lastc y j by rw [lastc]; rw [if_neg (fun hh => by omega)])
             clear h0
             go_wp2_with fail
             go_roundw
             case rel => exact ⟨j + 1, by omega, by go_num, by rw [HM.out]; exact HSq.out, HBq.out⟩
             case measure => simp [intOf]; omega
            ·have hk0 : (0 : Int) < (j : Int) := by omega
             simp only [rcl_pos j (by omega)] at ix
             by_cases he : y = cl j
             ·have hb' : ((bs (cl j)).toList == (bs y).toList) = true := by rw [he]; exact beq_self_eq_true _
              have HM := Lib.hid (show lastc y (j + 1) = j by unfold lastc; rw [if_pos ⟨by omega, he⟩])
              clear he
              go_wp2_with fail
              go_roundw
              case rel =>
               refine ⟨j + 1, by omega, by go_num, ?_, HBq.out.setCell (p := ⟨w.heap.size, 5, none⟩) (Nat.le_refl _) _⟩
               rw [HM.out, if_pos (by omega)]
               exact (HSq.out.sets _ true).2.2.2.2
              case measure => simp [intOf]; omega
             ·have hb' : ((bs (cl j)).toList == (bs y).toList) = false := by
               rw [ByteArray.toList_eq, ByteArray.toList_eq, bs_data, bs_data]; exact beq_eq_false_iff_ne.2 (fun e => he e.symm)
              have HM := Lib.hid (show lastc y (j + 1) = lastc y j by rw [lastc]; rw [if_neg (fun hh => he hh.2)])
              clear he
              go_wp2_with fail
              go_roundw
              case rel => exact ⟨j + 1, by omega, by go_num, by rw [HM.out]; exact HSq.out, HBq.out⟩
              case measure => simp [intOf]; omega
           ·obtain rfl : j = 4 := by omega
            have HSq := Lib.hid hS
            have HBq := Lib.hid hB
            clear hS hB
            go_wp2_with fail
            go_meet
            exact ⟨true, _, rfl, by rw [HY.out]; rfl, HSq.out, HBq.out⟩
       case rest =>
        obtain ⟨b, t', rfl, hput, hS2, hb2⟩ := hcut
        obtain ⟨w5, hw5⟩ : ∃ z, z = wc := ⟨_, rfl⟩; subst hw5
        have q0 := hS2.c0; have q1 := hS2.c1; have q2 := hS2.c2; have q3 := hS2.c3; have q4 := hS2.c4; have q5 := hS2.c5
        have g0 := hS2.fr 0; have g1 := hS2.fr 1; have g2 := hS2.fr 2; have g3 := hS2.fr 3; have g4 := hS2.fr 4; have g5 := hS2.fr 5
        have hF2 := HFr.out
        unfold refForm at hF2
        rw [hput] at hF2
        have HS2 := Lib.hid hS2
        have HB2 := Lib.hid hb2
        clear hput hS2 hb2
        cases b
        ·have HN2 := Lib.hid (show refOne (x :: r) = none by rw [← hF2]; rfl)
         clear hF2
         go_wp2_with fail
         refine bodyPost_ret (results_cell_tmp Tryz.results34 (p := ⟨w.heap.size, 0, none⟩) (v := .agg #[.int .i64 t'.code, .int .i64 t'.dst, .int .i64 t'.src, .bool t'.reg, .int .i64 t'.off, .int .i64 t'.num]) (u := .bool false) (by simp [go_sem]) (by simp [go_sem]) ?_) rfl ?_
         ·exact nload (t := t') (nput6 (t0 := t') HS2.out.img t')
         ·refine ⟨⟨t', false, rfl, by rw [HN2.out]; simp⟩, ?_⟩
          repeat' (first | with_reducible exact HB2.out | with_reducible refine Below.setCell ?_ ?_ _ | (simp; done) | (simp; omega) | omega)
        ·have HF3 := Lib.hid (show refForm ((form c).drop (k + 1)) (r.drop (k + 1)) t' = refOne (x :: r) by rw [← hF2]; rfl)
         clear hF2
         go_wp2_with fail
         go_roundw
         case rel => exact ⟨k + 1, t', by omega, by go_num, HS2.out, HF3.out, HB2.out⟩
         case measure => simp [intOf]; omega
      ·obtain rfl : k = (form c).length := by omega
       rw [List.drop_length, show r.drop (form c).length = [] from by rw [← hrl, List.drop_length]] at hF
       have q0 := hS.c0; have q1 := hS.c1; have q2 := hS.c2; have q3 := hS.c3; have q4 := hS.c4; have q5 := hS.c5
       have g0 := hS.fr 0; have g1 := hS.fr 1; have g2 := hS.fr 2; have g3 := hS.fr 3; have g4 := hS.fr 4; have g5 := hS.fr 5
       have HSr := Lib.hid hS
       have HFr := Lib.hid hF
       have HBr := Lib.hid hb
       clear hS hF hb s1 s2 s3 s4 s5 s0' f0 f1 f2 f3 f4 f5
       go_wp2_with fail
       refine bodyPost_ret (results_cell_tmp Tryz.results34 (p := ⟨w.heap.size, 0, none⟩) (v := .agg #[.int .i64 t.code, .int .i64 t.dst, .int .i64 t.src, .bool t.reg, .int .i64 t.off, .int .i64 t.num]) (u := .bool true) (by simp [go_sem]) (by simp [go_sem]) ?_) rfl ?_
       ·exact nload (t := t) (nput6 (t0 := t) HSr.out.img t)
       ·refine ⟨⟨t, true, rfl, by rw [← HFr.out]; simp [refForm]⟩, ?_⟩
        repeat' (first | with_reducible exact HBr.out | with_reducible refine Below.setCell ?_ ?_ _ | (simp; done) | (simp; omega) | omega)
end Go.Proofs.YtglilddlhibogaaGreatDoor.W
