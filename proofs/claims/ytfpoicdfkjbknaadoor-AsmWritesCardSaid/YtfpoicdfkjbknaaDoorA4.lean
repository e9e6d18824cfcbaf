/- The reference's Write: by contract. Conditions: the program's cells are known, its numbers are int64's; the tables lie in the world. -/
import Derived.Test.YtfpoicdfkjbknaaDoorA3
import Derived.Deep.CutBlock
import Derived.Deep.DeepCutAuto
import Derived.Deep.Light
namespace Go.Proofs.YtfpoicdfkjbknaaDoor.W
open Go.RowKit Go.Proofs.YtfpoicdfkjbknaaDoor.P
set_option linter.unusedSimpArgs false
set_option linter.unusedVariables false
open Go.Sort (grow)

set_option maxRecDepth 100000 in
set_option maxHeartbeats 4000000 in
theorem RPlace_any (r o : Int) (b : Nat) (hr : In64 r) (ho : In64 o) (w : World) (h : Tabs w) (hb : w.cell? ⟨b, 4, none⟩ = some (.int .i64 o)) : Calls Tryd.prog 27 #[.int .i64 r, .pointer (some ⟨b, 0, none⟩)] w fun e w' => e = .returned (.string (bs (plc r o))) ∧ Below w.heap.size w w' := by
 have L1 := num_length ho
 have L2 := num_length hr
 have k0 := cell_regrown hb
 have C0 := Lib.hid (show ∀ dr os, Calls Tryd.prog 26 #[.int .i64 r] (grow (redrawn w dr) os) fun e w'' => e = .returned (.string (bs (num r))) ∧ ∃ p : Regrown, w'' = grow (redrawn w p.d) p.os from fun dr os => Calls.regrown_of (ANum_any r hr _ (h.later (below_regrown w dr os))))
 have C1 := Lib.hid (show ∀ dr os, Calls Tryd.prog 26 #[.int .i64 o] (grow (redrawn w dr) os) fun e w'' => e = .returned (.string (bs (num o))) ∧ ∃ p : Regrown, w'' = grow (redrawn w p.d) p.os from fun dr os => Calls.regrown_of (ANum_any o ho _ (h.later (below_regrown w dr os))))
 have zb := block_lt_of_cell hb
 clear h hr ho
 by_cases hn : o < 0
 ·have e1 : plc r o = [91, 114] ++ num r ++ [] ++ num o ++ [93] := by unfold plc rg; rw [if_pos hn]; simp
  rw [e1]
  go_enter Tryd.func27, Tryd.ntmps27
  go_upto_region 4 with fail
  refine wp_region_quiet_below (by kernel_rfl) (by kernel_rfl) ?_
  repeat (first | (refine wpQuiet_cat (by rfl) _ _ _ _ (by rfl) _ _ (by rfl) (by rfl) (by simp only [List.length_append, List.length_cons, List.length_nil]; omega) ?_) | quiet_step (first | exact C0.out _ _ | exact C1.out _ _))
  refine wpQuiet_nil ?_
  intro wq hwq
  have HBQ := Lib.hid (show Below w.heap.size w wq from by obtain ⟨p, hp⟩ := hwq; rw [hp]; exact below_regrown _ _ _)
  clear hwq
  go_wp2_with fail
  go_ret
  exact ⟨by simp, HBQ.out⟩
 ·have e1 : plc r o = [91, 114] ++ num r ++ [43] ++ num o ++ [93] := by unfold plc rg; rw [if_neg hn]; simp
  rw [e1]
  go_enter Tryd.func27, Tryd.ntmps27
  go_upto_region 4 with fail
  refine wp_region_quiet_below (by kernel_rfl) (by kernel_rfl) ?_
  repeat (first | (refine wpQuiet_cat (by rfl) _ _ _ _ (by rfl) _ _ (by rfl) (by rfl) (by simp only [List.length_append, List.length_cons, List.length_nil]; omega) ?_) | quiet_step (first | exact C0.out _ _ | exact C1.out _ _))
  refine wpQuiet_nil ?_
  intro wq hwq
  have HBQ := Lib.hid (show Below w.heap.size w wq from by obtain ⟨p, hp⟩ := hwq; rw [hp]; exact below_regrown _ _ _)
  clear hwq
  go_wp2_with fail
  go_ret
  exact ⟨by simp, HBQ.out⟩
/-- what the reference's Write gives -/
def RWIs (w : World) (r : (Int × Int) × List UInt8) (e : Ending) (w' : World) : Prop := e = .returned (.tuple #[.string (bs r.2), .agg #[.int .i64 r.1.1, .int .i64 r.1.2]]) ∧ Below w.heap.size w w'
theorem Img.azero2 {w : World} {b : Nat} {t : TypeId} (h : w.heap[b]? = some (.cells #[.int .i64 0, .int .i64 0] t (0, 0))) : P.Img w b 2 (fun _ => .int .i64 0) := by
 refine Img.of_cells h (by rfl) fun j hj => ?_
 rcases j with _ | _ | j
 ·rfl
 ·rfl
 ·omega
theorem words_pos (t : Step) : 0 < (words t).length := by
 unfold words; repeat' split
 all_goals simp
theorem words_four (t : Step) : (words t).length ≤ 4 := by
 unfold words; repeat' split
 all_goals simp
theorem own_one {w : World} {g : Nat} {x : Value} {t : TypeId} (h : w.heap[g]? = some (.cells #[x] t (0, 0))) : w.ownsRow g t 1 (.slice (some ⟨g, 0, none⟩) 1 1) 1 [x] :=
 ⟨rfl, .inr ⟨g, 1, #[x], rfl, Nat.le_refl _, h, Nat.le_refl _, by unfold maxLen; omega, rfl, by simp⟩⟩

set_option maxRecDepth 100000 in
set_option maxHeartbeats 4000000 in
theorem RWrite_err (l : Value) (er p : Int) (he : er ≠ 0) (w : World) (hch : ∀ w', Below w.heap.size w w' → Calls Tryd.prog 14 #[l] w' fun e w'' => e = .returned (.agg #[.int .i64 er, .int .i64 p]) ∧ Below w'.heap.size w' w'') :
  Calls Tryd.prog 10 #[l] w (RWIs w ((er, p), [])) := by
 have HW0 := Lib.hid (Below.refl w.heap.size w)
 have HCH := Lib.hid hch
 have tn : (er != 0) = true := by rw [bne_iff_ne]; exact he
 clear hch he
 go_enter Tryd.func10, Tryd.ntmps10
 go_wp2_with fail
 refine (HCH.out _ (by repeat' (first | with_reducible (first | exact HW0.out | apply bR | apply bD | apply bN | apply bA | apply bS) | (simp; done) | (simp; omega) | omega))).mono ?_
 rintro e w1 ⟨rfl, hb⟩
 have HB1 := Lib.hid (show Below w.heap.size w w1 from Below.trans (by repeat' (first | with_reducible (first | exact HW0.out | apply bR | apply bD | apply bN | apply bA | apply bS) | (simp; done) | (simp; omega) | omega)) (hb.mono (by first | omega | simp <;> omega)))
 have IE1 : P.Img w1 w.heap.size 2 (fun _ => .int .i64 0) := (Img.azero2 (heap_alloc_new w _)).later hb (by simp)
 have HJ1 := Lib.hid IE1
 have zE := IE1.lt (by omega)
 clear hb IE1
 go_upto_region 3 with fail
 generalize hW : World.alloc w1 _ = w2
 have f0 : w2.cell? ⟨w1.heap.size, 0, none⟩ = some (.int .i64 er) := by rw [← hW]; simp [go_sem]
 have f1 : w2.cell? ⟨w1.heap.size, 1, none⟩ = some (.int .i64 p) := by rw [← hW]; simp [go_sem]
 have hb2 : Below w1.heap.size w1 w2 := hW ▸ (Below.refl _ _).alloc (Nat.le_refl _) _
 have IE2 := HJ1.out.later hb2 zE
 have HBw2 := Lib.hid (HB1.out.trans (hb2.mono HB1.out.size))
 have e0 := IE2.cell 0 (by omega); have e1 := IE2.cell 1 (by omega)
 have s0 := IE2.free 0 (by omega); have s1 := IE2.free 1 (by omega)
 have zE2 : w.heap.size < w2.heap.size := IE2.lt (by omega)
 have zF2 : w1.heap.size < w2.heap.size := block_lt_of_cell f0
 try simp only at e0 e1
 clear hW hb2 IE2 HJ1 HB1
 go_cut [2] (fun v wx => v = .string ⟨#[]⟩ ∧ wx.cell? ⟨w.heap.size, 0, none⟩ = some (.int .i64 er) ∧ wx.cell? ⟨w.heap.size, 1, none⟩ = some (.int .i64 p) ∧ Below w.heap.size w wx)
 case first =>
  as_aux_lemma =>
   go_region
   all_goals go_wp2_with fail
   all_goals go_meet
   all_goals go_light
   all_goals refine ⟨rfl, ?_, ?_, ?_⟩
   all_goals first | (simp [go_sem, *]; done) | (repeat' (first | with_reducible exact HBw2.out | with_reducible refine Below.drew ?_ | with_reducible refine Below.setCell ?_ ?_ _ | (simp; done) | (simp; omega) | omega))
 case rest =>
  obtain ⟨rfl, e0, e1, hbx⟩ := hcut
  obtain ⟨wx, hwx⟩ : ∃ x, x = wc := ⟨_, rfl⟩; subst hwx
  go_wp2_with fail
  refine bodyPost_ret (v := .tuple #[.string ⟨#[]⟩, .agg #[.int .i64 er, .int .i64 p]]) ?_ rfl ⟨rfl, hbx⟩
  simp [results, Tryd.results10, go_sem, *]
set_option maxRecDepth 100000 in
set_option maxHeartbeats 100000000 in
theorem RWrite_go (a : Addr) (n cap : Nat) (S : Nat → Step) (hn : 1 ≤ n) (hn2 : n ≤ 200) (hcap : n ≤ cap) (w : World) (hs : Cells w a S n) (hw : ∀ j, j < n → (S j).wrong = 0) (hin : ∀ j, j < n → In64 (S j).off ∧ In64 (S j).num) (ht : Tabs w)
  (hch : ∀ w', Below w.heap.size w w' → Calls Tryd.prog 14 #[.slice (some a) n cap] w' fun e w'' => e = .returned (.agg #[.int .i64 0, .int .i64 (-1)]) ∧ Below w'.heap.size w' w'') :
  Calls Tryd.prog 10 #[.slice (some a) n cap] w (RWIs w ((0, -1), progText S n)) := by
 have HW0 := Lib.hid (Below.refl w.heap.size w)
 have HCH := Lib.hid hch
 have HS := Lib.hid hs
 have HW := Lib.hid hw
 have HIN := Lib.hid hin
 have HT := Lib.hid ht
 clear hch hs hw hin ht
 go_enter Tryd.func10, Tryd.ntmps10
 go_wp2_with fail
 refine (HCH.out _ (by repeat' (first | with_reducible (first | exact HW0.out | apply bR | apply bD | apply bN | apply bA | apply bS) | (simp; done) | (simp; omega) | omega))).mono ?_
 rintro e w1 ⟨rfl, hb⟩
 have HB1' := Lib.hid (show Below w.heap.size w w1 from Below.trans (by repeat' (first | with_reducible (first | exact HW0.out | apply bR | apply bD | apply bN | apply bA | apply bS) | (simp; done) | (simp; omega) | omega)) (hb.mono (by first | omega | simp <;> omega)))
 have IE1' : P.Img w1 w.heap.size 2 (fun _ => .int .i64 0) := (Img.azero2 (heap_alloc_new w _)).later hb (by simp)
 have HJ1 := Lib.hid IE1'
 have zE := IE1'.lt (by omega)
 clear hb IE1' HCH
 obtain ⟨i0, hi0, hz0, hz1, hz2⟩ := info_parts infoString
 have HINF := Lib.hid hi0
 have HZ0 := Lib.hid hz0; have HZ1 := Lib.hid hz1; have HZ2 := Lib.hid hz2
 clear hi0 hz0 hz1 hz2
 go_upto_region 5 with fail
 generalize hW : World.alloc w1 _ = w2
 have hb2 : Below w1.heap.size w1 w2 := hW ▸ (Below.refl _ _).alloc (Nat.le_refl _) _
 have HB2 := Lib.hid (HB1'.out.trans (hb2.mono HB1'.out.size))
 have HJ2 := Lib.hid (HJ1.out.later hb2 zE)
 have zE2 : w.heap.size < w2.heap.size := HJ2.out.lt (by omega)
 have HS2 := Lib.hid (HS.out.later HB2.out)
 have HT2 := Lib.hid (HT.out.later HB2.out)
 clear hW hb2 HJ1 HB1' zE HS HT
 go_wp2_with fail
 go_loopw [20, 5] (fun k lv wr => ∃ i : Nat, i ≤ n ∧ k = .int .i64 i ∧ wr.ownsRow w2.heap.size 9 1 lv i (srow (texts S i)) ∧ (∃ og oc, lv = .slice og i oc) ∧ Below w2.heap.size w2 wr) (fun k _ _ => n - (intOf k).toNat)
 case atStart => exact ⟨0, by omega, rfl, World.ownsRow_nil _ _ _ _, ⟨none, 0, rfl⟩, Below.refl _ _⟩
 case round =>
  obtain ⟨i, him, rfl, hown, ⟨og, oc, rfl⟩, hB⟩ := hrel
  have HOWN := Lib.hid hown
  have HB := Lib.hid hB
  have HSr := Lib.hid (HS2.out.later hB)
  have HTr := Lib.hid (HT2.out.later hB)
  have zr : w2.heap.size ≤ wr.heap.size := hB.size
  clear hown hB
  by_cases h : i < n
  ·obtain ⟨e0, e1, e2, e3, e4, e5⟩ := HSr.out i h
   have l0 := block_lt_of_cell e0
   have hwi := HW.out i h
   have hii := HIN.out i h
   have hsucc := texts_succ S i
   obtain ⟨t, hT⟩ : ∃ t, S i = t := ⟨_, rfl⟩
   rw [hT] at e0 e1 e2 e3 e4 e5 hwi hii hsucc
   obtain ⟨c, d, sr, r, o, nn⟩ := t
   simp only at e0 e1 e2 e3 e4 e5 hii
   obtain ⟨g1, g2, -, g4⟩ := wrong_ok hwi
   simp only at g1 g2 g4
   have hd : In64 d := by unfold In64; omega
   have hs : In64 sr := by unfold In64; omega
   obtain ⟨c, rfl⟩ := Int.eq_ofNat_of_zero_le (show 0 ≤ c by omega)
   have c29 : (c : Int) < 29 := by omega
   obtain ⟨X, hX⟩ : ∃ X, (if r = true then rg sr else num nn) = X := ⟨_, rfl⟩
   have L1 := rg_length hd; have L2 := num_length hii.1; have L3 := plc_length hs hii.1; have L4 := plc_length hd hii.1; have L8 := num_length hs; have L9 := num_length hd
   have L5 : X.length ≤ 21 := hX ▸ sec_length (t := ⟨c, d, sr, r, o, nn⟩) hs hii.2
   have L6 := nm_length c
   have HX := Lib.hid hX
   have HD := Lib.hid hd; have HSR := Lib.hid hs; have HO := Lib.hid hii.1; have HN := Lib.hid hii.2; have HG := Lib.hid g4
   have HSU := Lib.hid hsucc
   have i1 : (i : Int) < n := by omega
   have hin1 : Hid (i + 1 ≤ n) := (by omega : i + 1 ≤ n)
   clear hwi hii hsucc hT hX hd hs g4
   go_upto_region 8 with fail
   generalize hWx : World.alloc wr _ = wx
   have IX : P.Img wx wr.heap.size 6 (astepimg c d sr r o nn) := hWx ▸ aimg_at (heap_alloc_new wr _)
   have hbx : Below wr.heap.size wr wx := hWx ▸ (Below.refl _ _).alloc (Nat.le_refl _) _
   have HBX := Lib.hid hbx
   have HIX := Lib.hid IX
   have HTX := Lib.hid (HTr.out.later hbx)
   obtain ⟨f0, f1, f2, f3, f4, f5⟩ := acells IX
   have zx : wr.heap.size < wx.heap.size := IX.lt (by omega)
   clear e0 e1 e2 e3 e4 e5 l0 hWx hbx IX
   obtain ⟨q, hq⟩ : ∃ q, q = wr.heap.size := ⟨_, rfl⟩
   rw [← hq] at zx HIX f0 f1 f2 f3 f4 f5 ⊢
   have HQ := Lib.hid hq
   clear hq
   go_wp2_with fail
   refine (ANum_any nn HN.out _ HTX.out).mono ?_
   rintro e w3 ⟨rfl, hb⟩
   have HB3 := Lib.hid hb
   have I3 := Lib.hid (HIX.out.later hb zx)
   clear hb f0 f1 f2 f3 f4 f5
   obtain ⟨f0, f1, f2, f3, f4, f5⟩ := acells I3.out
   go_upto_if 28 with fail
   go_cut [8] (fun p wy => p = .string (bs X) ∧ P.Img wy q 6 (astepimg c d sr r o nn) ∧ Below wx.heap.size wx wy)
   case first =>
    as_aux_lemma =>
     cases r with
     | false =>
      go_wp2_with fail
      go_meet
      go_light
      exact ⟨by rw [← HX.out]; rfl, I3.out, HB3.out⟩
     | true =>
      go_wp2_with fail
      refine (ANum_any sr HSR.out _ (HTX.out.later HB3.out)).mono ?_
      rintro e w4 ⟨rfl, hb⟩
      have I4 := Lib.hid (I3.out.later hb (I3.out.lt (by omega)))
      have HB4 := Lib.hid (HB3.out.trans (hb.mono HB3.out.size))
      clear hb f0 f1 f2 f3 f4 f5
      go_wp2_with (refine wpList_cat (by rfl) _ _ _ _ (by rfl) _ _ (by rfl) (by rfl) (by simp only [List.length_append, List.length_cons, List.length_nil]; omega) ?_)
      go_meet
      go_light
      exact ⟨by rw [← HX.out]; rfl, I4.out, HB4.out⟩
   case rest =>
    obtain ⟨rfl, hI, hB⟩ := hcut
    obtain ⟨w4, hw4⟩ : ∃ x, x = wc := ⟨_, rfl⟩; subst hw4
    have I4 := Lib.hid hI
    have HB4 := Lib.hid hB
    have HT4 := Lib.hid (HTX.out.later hB)
    clear hI hB f0 f1 f2 f3 f4 f5 I3 HB3
    obtain ⟨f0, f1, f2, f3, f4, f5⟩ := acells I4.out
    go_wp2_with fail
    refine (ANum_any d HD.out _ HT4.out).mono ?_
    rintro e w5 ⟨rfl, hb⟩
    have I5 := Lib.hid (I4.out.later hb (I4.out.lt (by omega)))
    have HB5 := Lib.hid (HB4.out.trans (hb.mono HB4.out.size))
    have HT5 := Lib.hid (HTX.out.later HB5.out)
    clear hb f0 f1 f2 f3 f4 f5 I4 HB4 HT4
    obtain ⟨f0, f1, f2, f3, f4, f5⟩ := acells I5.out
    have n0 := HT5.out.rnames c (by omega) (by omega)
    have gz5 : 0 < w5.heap.size := block_lt_of_cell n0
    go_upto_block 2 with (refine wpList_cat (by rfl) _ _ _ _ (by rfl) _ _ (by rfl) (by rfl) (by simp only [List.length_append, List.length_cons, List.length_nil]; omega) ?_)
    generalize hW6 : World.alloc w5 _ = w6
    have hOne : w6.ownsRow w5.heap.size 9 1 (.slice (some ⟨w5.heap.size, 0, none⟩) 1 1) 1 [.string (bs (nm c))] := hW6 ▸ own_one (heap_alloc_new w5 _)
    have hb6 : Below w5.heap.size w5 w6 := hW6 ▸ (Below.refl _ _).alloc (Nat.le_refl _) _
    have I6 := Lib.hid (I5.out.later hb6 (I5.out.lt (by omega)))
    have HB6 := Lib.hid (HB5.out.trans (hb6.mono HB5.out.size))
    have HT6 := Lib.hid (HT5.out.later hb6)
    have HO6 := Lib.hid hOne
    have z6 : q < w6.heap.size := I6.out.lt (by omega)
    have z65 : w5.heap.size ≤ w6.heap.size := hb6.size
    have z5x : wx.heap.size ≤ w5.heap.size := HB5.out.size
    clear hW6 hOne hb6 n0 gz5 f0 f1 f2 f3 f4 f5 I5 HB5 HT5
    obtain ⟨f0, f1, f2, f3, f4, f5⟩ := acells I6.out
    generalize w5.heap.size = g at *
    go_cut [11] (fun lv wy => ∃ g' cp, lv = .slice (some ⟨g', 0, none⟩) (words ⟨c, d, sr, r, o, nn⟩).length cp ∧ wy.ownsRow g 9 1 lv (words ⟨c, d, sr, r, o, nn⟩).length (srow (words ⟨c, d, sr, r, o, nn⟩)) ∧ Below g w6 wy)
    case first =>
     have hcl : c = 28 ∨ c = 27 ∨ c = 14 ∨ c = 13 ∨ c = 25 ∨ c = 26 ∨ (15 ≤ c ∧ c ≤ 24) ∨ c ≤ 12 := by omega
     rcases hcl with rfl | rfl | rfl | rfl | rfl | rfl | hc | hc
     ·as_aux_lemma =>
       go_wp2_with (first | (go_at_call 28; refine (Makes_any _ _).mono ?_; rintro e w' ⟨rfl, rfl⟩) | (go_at_call 29; refine (RefAsks_any _ _).mono ?_; rintro e w' ⟨rfl, rfl⟩; rw [asks_of]) | (refine wpList_cat (by rfl) _ _ _ _ (by rfl) _ _ (by rfl) (by rfl) (by simp only [List.length_append, List.length_cons, List.length_nil]; omega) ?_))
       go_meet
       go_light
       first | rw [wd_exit] | erw [wd_exit]
       exact ⟨g, 1, rfl, HO6.out, Below.refl _ _⟩
     ·as_aux_lemma =>
       have hnn : 1 ≤ nn ∧ nn ≤ 3 := acall_num HG.out rfl
       obtain ⟨m, rfl⟩ := Int.eq_ofNat_of_zero_le (show 0 ≤ nn by omega)
       have m4 : (m : Int) < 4 := by omega
       have n1 := HT6.out.rcalls m (by omega) (by omega)
       have gz6 : 1 < w6.heap.size := block_lt_of_cell n1
       go_wp2_with (first | (at_builtin; refine wpList_append_lies _ (by rfl) (.tmp 110) (.tmp 115) 88 (by rfl) g 9 i0 _ 1 16 Tryd.underlying88 HINF.out HZ0.out HZ1.out HZ2.out rfl (by omega) (.slice (some ⟨g, 0, none⟩) 1 1) 1 [.string (bs (nm 27))] (by rfl) (HO6.out.alloc _) ⟨w6.heap.size, 0, none⟩ 1 1 [.string (bs (cl m))] (by rfl) (by rfl) (World.news_of_block (cs := #[.string (bs (cl m))]) (t := 9) (fr := (0, 0)) (heap_alloc_new w6 _)) (by simp [Value.oneCell']) (by omega) (by unfold maxLen; omega) (by omega) (by simp; omega) (w6.heap.size + 1) (by simp) ?_; intro gg cp w8 hown2 hgrow hat hlt1) | (go_at_call 28; refine (Makes_any _ _).mono ?_; rintro e w' ⟨rfl, rfl⟩) | (go_at_call 29; refine (RefAsks_any _ _).mono ?_; rintro e w' ⟨rfl, rfl⟩; rw [asks_of]) | (refine wpList_cat (by rfl) _ _ _ _ (by rfl) _ _ (by rfl) (by rfl) (by simp only [List.length_append, List.length_cons, List.length_nil]; omega) ?_))
       go_meet
       go_light
       first | rw [wd_call] | erw [wd_call]
       refine ⟨gg, cp, rfl, hown2, ?_⟩
       exact Below.grown ((Below.refl g w6).alloc (by omega) _) hgrow (by simp; omega) (fun k hk => by have := (HO6.out.lt k hk).1; omega)
     ·as_aux_lemma =>
       go_wp2_with (first | (go_at_call 28; refine (Makes_any _ _).mono ?_; rintro e w' ⟨rfl, rfl⟩) | (go_at_call 29; refine (RefAsks_any _ _).mono ?_; rintro e w' ⟨rfl, rfl⟩; rw [asks_of]) | (refine wpList_cat (by rfl) _ _ _ _ (by rfl) _ _ (by rfl) (by rfl) (by simp only [List.length_append, List.length_cons, List.length_nil]; omega) ?_))
       refine (ANum_any o HO.out _ (HT6.out.later (Below.refl _ _))).mono ?_
       rintro e wa0 ⟨rfl, hb⟩
       have Bwa0 := Lib.hid (show Below w6.heap.size w6 wa0 from hb)
       have Iwa0 := Lib.hid (I6.out.later Bwa0.out z6)
       have HOwa0 := Lib.hid (aowns_later HO6.out Bwa0.out)
       have zwa0 : w6.heap.size ≤ wa0.heap.size := Bwa0.out.size
       clear hb f0 f1 f2 f3 f4 f5
       obtain ⟨f0, f1, f2, f3, f4, f5⟩ := acells Iwa0.out
       go_wp2_with (first | (at_builtin; refine wpList_append_lies _ (by rfl) (.tmp 64) (.tmp 68) 88 (by rfl) g 9 i0 _ 1 16 Tryd.underlying88 HINF.out HZ0.out HZ1.out HZ2.out rfl (by omega) (.slice (some ⟨g, 0, none⟩) 1 1) 1 [.string (bs (nm 14))] (by rfl) (HOwa0.out.alloc _) ⟨wa0.heap.size, 0, none⟩ 1 1 [.string (bs (num o))] (by rfl) (by rfl) (World.news_of_block (cs := #[.string (bs (num o))]) (t := 9) (fr := (0, 0)) (heap_alloc_new wa0 _)) (by simp [Value.oneCell']) (by omega) (by unfold maxLen; omega) (by omega) (by simp; omega) (wa0.heap.size + 1) (by simp) ?_; intro gg cp w8 hown2 hgrow hat hlt1) | (go_at_call 28; refine (Makes_any _ _).mono ?_; rintro e w' ⟨rfl, rfl⟩) | (go_at_call 29; refine (RefAsks_any _ _).mono ?_; rintro e w' ⟨rfl, rfl⟩; rw [asks_of]) | (refine wpList_cat (by rfl) _ _ _ _ (by rfl) _ _ (by rfl) (by rfl) (by simp only [List.length_append, List.length_cons, List.length_nil]; omega) ?_))
       go_meet
       go_light
       first | rw [wd_jump] | erw [wd_jump]
       refine ⟨gg, cp, rfl, hown2, ?_⟩
       exact Below.grown ((Bwa0.out.mono (by omega)).alloc (by omega) _) hgrow (by simp; omega) (fun k hk => by have := (HO6.out.lt k hk).1; omega)
     ·as_aux_lemma =>
       go_wp2_with (first | (at_builtin; refine wpList_append_lies _ (by rfl) (.tmp 56) (.tmp 58) 88 (by rfl) g 9 i0 _ 1 16 Tryd.underlying88 HINF.out HZ0.out HZ1.out HZ2.out rfl (by omega) (.slice (some ⟨g, 0, none⟩) 1 1) 1 [.string (bs (nm 13))] (by rfl) (HO6.out.alloc _) ⟨w6.heap.size, 0, none⟩ 1 1 [.string (bs (114 :: num d))] (by rfl) (by rfl) (World.news_of_block (cs := #[.string (bs (114 :: num d))]) (t := 9) (fr := (0, 0)) (heap_alloc_new w6 _)) (by simp [Value.oneCell']) (by omega) (by unfold maxLen; omega) (by omega) (by simp; omega) (w6.heap.size + 1) (by simp) ?_; intro gg cp w8 hown2 hgrow hat hlt1) | (go_at_call 28; refine (Makes_any _ _).mono ?_; rintro e w' ⟨rfl, rfl⟩) | (go_at_call 29; refine (RefAsks_any _ _).mono ?_; rintro e w' ⟨rfl, rfl⟩; rw [asks_of]) | (refine wpList_cat (by rfl) _ _ _ _ (by rfl) _ _ (by rfl) (by rfl) (by simp only [List.length_append, List.length_cons, List.length_nil]; omega) ?_))
       go_meet
       go_light
       first | rw [wd_neg] | erw [wd_neg]
       refine ⟨gg, cp, rfl, hown2, ?_⟩
       exact Below.grown ((Below.refl g w6).alloc (by omega) _) hgrow (by simp; omega) (fun k hk => by have := (HO6.out.lt k hk).1; omega)
     ·as_aux_lemma =>
       go_wp2_with (first | (go_at_call 28; refine (Makes_any _ _).mono ?_; rintro e w' ⟨rfl, rfl⟩) | (go_at_call 29; refine (RefAsks_any _ _).mono ?_; rintro e w' ⟨rfl, rfl⟩; rw [asks_of]) | (refine wpList_cat (by rfl) _ _ _ _ (by rfl) _ _ (by rfl) (by rfl) (by simp only [List.length_append, List.length_cons, List.length_nil]; omega) ?_))
       refine (RPlace_any sr o q HSR.out HO.out _ (HT6.out.later (Below.refl _ _)) f4).mono ?_
       rintro e wa0 ⟨rfl, hb⟩
       have Bwa0 := Lib.hid (show Below w6.heap.size w6 wa0 from hb)
       have Iwa0 := Lib.hid (I6.out.later Bwa0.out z6)
       have HOwa0 := Lib.hid (aowns_later HO6.out Bwa0.out)
       have zwa0 : w6.heap.size ≤ wa0.heap.size := Bwa0.out.size
       clear hb f0 f1 f2 f3 f4 f5
       obtain ⟨f0, f1, f2, f3, f4, f5⟩ := acells Iwa0.out
       go_wp2_with (first | (at_builtin; refine wpList_append_lies _ (by rfl) (.tmp 86) (.tmp 92) 88 (by rfl) g 9 i0 _ 1 16 Tryd.underlying88 HINF.out HZ0.out HZ1.out HZ2.out rfl (by omega) (.slice (some ⟨g, 0, none⟩) 1 1) 1 [.string (bs (nm 25))] (by rfl) (HOwa0.out.alloc _) ⟨wa0.heap.size, 0, none⟩ 2 2 [.string (bs (114 :: num d)), .string (bs (plc sr o))] (by rfl) (by rfl) (World.news_of_block (cs := #[.string (bs (114 :: num d)), .string (bs (plc sr o))]) (t := 9) (fr := (0, 0)) (heap_alloc_new wa0 _)) (by simp [Value.oneCell']) (by omega) (by unfold maxLen; omega) (by omega) (by simp; omega) (wa0.heap.size + 1) (by simp) ?_; intro gg cp w8 hown2 hgrow hat hlt1) | (go_at_call 28; refine (Makes_any _ _).mono ?_; rintro e w' ⟨rfl, rfl⟩) | (go_at_call 29; refine (RefAsks_any _ _).mono ?_; rintro e w' ⟨rfl, rfl⟩; rw [asks_of]) | (refine wpList_cat (by rfl) _ _ _ _ (by rfl) _ _ (by rfl) (by rfl) (by simp only [List.length_append, List.length_cons, List.length_nil]; omega) ?_))
       go_meet
       go_light
       first | rw [wd_load] | erw [wd_load]
       refine ⟨gg, cp, rfl, hown2, ?_⟩
       exact Below.grown ((Bwa0.out.mono (by omega)).alloc (by omega) _) hgrow (by simp; omega) (fun k hk => by have := (HO6.out.lt k hk).1; omega)
     ·as_aux_lemma =>
       go_wp2_with (first | (go_at_call 28; refine (Makes_any _ _).mono ?_; rintro e w' ⟨rfl, rfl⟩) | (go_at_call 29; refine (RefAsks_any _ _).mono ?_; rintro e w' ⟨rfl, rfl⟩; rw [asks_of]) | (refine wpList_cat (by rfl) _ _ _ _ (by rfl) _ _ (by rfl) (by rfl) (by simp only [List.length_append, List.length_cons, List.length_nil]; omega) ?_))
       refine (RPlace_any d o q HD.out HO.out _ (HT6.out.later (Below.refl _ _)) f4).mono ?_
       rintro e wa0 ⟨rfl, hb⟩
       have Bwa0 := Lib.hid (show Below w6.heap.size w6 wa0 from hb)
       have Iwa0 := Lib.hid (I6.out.later Bwa0.out z6)
       have HOwa0 := Lib.hid (aowns_later HO6.out Bwa0.out)
       have zwa0 : w6.heap.size ≤ wa0.heap.size := Bwa0.out.size
       clear hb f0 f1 f2 f3 f4 f5
       obtain ⟨f0, f1, f2, f3, f4, f5⟩ := acells Iwa0.out
       go_wp2_with (first | (at_builtin; refine wpList_append_lies _ (by rfl) (.tmp 98) (.tmp 104) 88 (by rfl) g 9 i0 _ 1 16 Tryd.underlying88 HINF.out HZ0.out HZ1.out HZ2.out rfl (by omega) (.slice (some ⟨g, 0, none⟩) 1 1) 1 [.string (bs (nm 26))] (by rfl) (HOwa0.out.alloc _) ⟨wa0.heap.size, 0, none⟩ 2 2 [.string (bs (plc d o)), .string (bs (X))] (by rfl) (by rfl) (World.news_of_block (cs := #[.string (bs (plc d o)), .string (bs (X))]) (t := 9) (fr := (0, 0)) (heap_alloc_new wa0 _)) (by simp [Value.oneCell']) (by omega) (by unfold maxLen; omega) (by omega) (by simp; omega) (wa0.heap.size + 1) (by simp) ?_; intro gg cp w8 hown2 hgrow hat hlt1) | (go_at_call 28; refine (Makes_any _ _).mono ?_; rintro e w' ⟨rfl, rfl⟩) | (go_at_call 29; refine (RefAsks_any _ _).mono ?_; rintro e w' ⟨rfl, rfl⟩; rw [asks_of]) | (refine wpList_cat (by rfl) _ _ _ _ (by rfl) _ _ (by rfl) (by rfl) (by simp only [List.length_append, List.length_cons, List.length_nil]; omega) ?_))
       go_meet
       go_light
       first | rw [wd_store] | erw [wd_store]
       rw [sec_mk, HX.out]
       refine ⟨gg, cp, rfl, hown2, ?_⟩
       exact Below.grown ((Bwa0.out.mono (by omega)).alloc (by omega) _) hgrow (by simp; omega) (fun k hk => by have := (HO6.out.lt k hk).1; omega)
     ·as_aux_lemma =>
       have t14 := abeq_no (show (c : Int) ≠ 14 by omega); have t13 := abeq_no (show (c : Int) ≠ 13 by omega); have t25 := abeq_no (show (c : Int) ≠ 25 by omega); have t26 := abeq_no (show (c : Int) ≠ 26 by omega); have t27 := abeq_no (show (c : Int) ≠ 27 by omega)
       have c12 : decide ((c : Int) ≤ 12) = false := by simp; omega
       go_wp2_with (first | (go_at_call 28; refine (Makes_any _ _).mono ?_; rintro e w' ⟨rfl, rfl⟩) | (go_at_call 29; refine (RefAsks_any _ _).mono ?_; rintro e w' ⟨rfl, rfl⟩; rw [asks_of]) | (refine wpList_cat (by rfl) _ _ _ _ (by rfl) _ _ (by rfl) (by rfl) (by simp only [List.length_append, List.length_cons, List.length_nil]; omega) ?_))
       refine (ANum_any o HO.out _ (HT6.out.later (Below.refl _ _))).mono ?_
       rintro e wa0 ⟨rfl, hb⟩
       have Bwa0 := Lib.hid (show Below w6.heap.size w6 wa0 from hb)
       have Iwa0 := Lib.hid (I6.out.later Bwa0.out z6)
       have HOwa0 := Lib.hid (aowns_later HO6.out Bwa0.out)
       have zwa0 : w6.heap.size ≤ wa0.heap.size := Bwa0.out.size
       clear hb f0 f1 f2 f3 f4 f5
       obtain ⟨f0, f1, f2, f3, f4, f5⟩ := acells Iwa0.out
       go_wp2_with (first | (at_builtin; refine wpList_append_lies _ (by rfl) (.tmp 74) (.tmp 80) 88 (by rfl) g 9 i0 _ 1 16 Tryd.underlying88 HINF.out HZ0.out HZ1.out HZ2.out rfl (by omega) (.slice (some ⟨g, 0, none⟩) 1 1) 1 [.string (bs (nm c))] (by rfl) (HOwa0.out.alloc _) ⟨wa0.heap.size, 0, none⟩ 3 3 [.string (bs (114 :: num d)), .string (bs (X)), .string (bs (num o))] (by rfl) (by rfl) (World.news_of_block (cs := #[.string (bs (114 :: num d)), .string (bs (X)), .string (bs (num o))]) (t := 9) (fr := (0, 0)) (heap_alloc_new wa0 _)) (by simp [Value.oneCell']) (by omega) (by unfold maxLen; omega) (by omega) (by simp; omega) (wa0.heap.size + 1) (by simp) ?_; intro gg cp w8 hown2 hgrow hat hlt1) | (go_at_call 28; refine (Makes_any _ _).mono ?_; rintro e w' ⟨rfl, rfl⟩) | (go_at_call 29; refine (RefAsks_any _ _).mono ?_; rintro e w' ⟨rfl, rfl⟩; rw [asks_of]) | (refine wpList_cat (by rfl) _ _ _ _ (by rfl) _ _ (by rfl) (by rfl) (by simp only [List.length_append, List.length_cons, List.length_nil]; omega) ?_))
       go_meet
       go_light
       first | rw [wd_ask (c := c) (by omega)] | erw [wd_ask (c := c) (by omega)]
       rw [sec_mk, HX.out]
       refine ⟨gg, cp, rfl, hown2, ?_⟩
       exact Below.grown ((Bwa0.out.mono (by omega)).alloc (by omega) _) hgrow (by simp; omega) (fun k hk => by have := (HO6.out.lt k hk).1; omega)
     ·as_aux_lemma =>
       have t14 := abeq_no (show (c : Int) ≠ 14 by omega); have t13 := abeq_no (show (c : Int) ≠ 13 by omega); have t25 := abeq_no (show (c : Int) ≠ 25 by omega); have t26 := abeq_no (show (c : Int) ≠ 26 by omega); have t27 := abeq_no (show (c : Int) ≠ 27 by omega)
       have c1 : (1 : Int) ≤ c := by omega
       have c12 : (c : Int) ≤ 12 := by omega
       go_wp2_with (first | (at_builtin; refine wpList_append_lies _ (by rfl) (.tmp 47) (.tmp 50) 88 (by rfl) g 9 i0 _ 1 16 Tryd.underlying88 HINF.out HZ0.out HZ1.out HZ2.out rfl (by omega) (.slice (some ⟨g, 0, none⟩) 1 1) 1 [.string (bs (nm c))] (by rfl) (HO6.out.alloc _) ⟨w6.heap.size, 0, none⟩ 2 2 [.string (bs (114 :: num d)), .string (bs (X))] (by rfl) (by rfl) (World.news_of_block (cs := #[.string (bs (114 :: num d)), .string (bs (X))]) (t := 9) (fr := (0, 0)) (heap_alloc_new w6 _)) (by simp [Value.oneCell']) (by omega) (by unfold maxLen; omega) (by omega) (by simp; omega) (w6.heap.size + 1) (by simp) ?_; intro gg cp w8 hown2 hgrow hat hlt1) | (go_at_call 28; refine (Makes_any _ _).mono ?_; rintro e w' ⟨rfl, rfl⟩) | (go_at_call 29; refine (RefAsks_any _ _).mono ?_; rintro e w' ⟨rfl, rfl⟩; rw [asks_of]) | (refine wpList_cat (by rfl) _ _ _ _ (by rfl) _ _ (by rfl) (by rfl) (by simp only [List.length_append, List.length_cons, List.length_nil]; omega) ?_))
       go_meet
       go_light
       first | rw [wd_make (c := c) (by omega)] | erw [wd_make (c := c) (by omega)]
       rw [sec_mk, HX.out]
       refine ⟨gg, cp, rfl, hown2, ?_⟩
       exact Below.grown ((Below.refl g w6).alloc (by omega) _) hgrow (by simp; omega) (fun k hk => by have := (HO6.out.lt k hk).1; omega)
    case rest =>
     obtain ⟨g', cp, rfl, hO7, hB7⟩ := hcut
     obtain ⟨w7, hw7⟩ : ∃ x, x = wc := ⟨_, rfl⟩; subst hw7
     have hBr7 : Below wr.heap.size wr w7 := HBX.out.trans ((HB6.out.trans (hB7.mono z5x)).mono HBX.out.size)
     have HBr7 := Lib.hid hBr7
     have HOr7 := Lib.hid (aowns_later HOWN.out hBr7)
     have hTL : (stepText ⟨c, d, sr, r, o, nn⟩).length ≤ 200 := stepText_length _ HD.out HSR.out HO.out HN.out
     have HTL := Lib.hid hTL
     obtain ⟨hg7, hcp7⟩ : g' < w7.heap.size ∧ (words ⟨c, d, sr, r, o, nn⟩).length ≤ cp := by
      have h0 : 0 < (words ⟨c, d, sr, r, o, nn⟩).length := words_pos _
      rcases hO7.2 with ⟨h1, h2⟩ | ⟨g0, cap0, cur, h1, h2, h3, h4, h5⟩
      ·omega
      ·injection h1 with a1 a2 a3
       exact ⟨(hO7.lt g' rfl).2, by omega⟩
     have hwl : (words ⟨c, d, sr, r, o, nn⟩).length ≤ 4 := words_four _
     have HWC := Lib.hid (srow_cells hO7)
     have hT2 : stepText ⟨c, d, sr, r, o, nn⟩ = Lib.join (words ⟨c, d, sr, r, o, nn⟩) [32] := rfl
     have z7 : w2.heap.size ≤ w7.heap.size := by have := HB.out.size; have := hBr7.size; omega
     rw [hT2] at HSU HTL
     clear hBr7 hTL hT2 hB7 hO7 I6 HB6 HT6 HO6 HBX HIX HTX f0 f1 f2 f3 f4 f5
     generalize words ⟨c, d, sr, r, o, nn⟩ = W at *
     go_wp2_with fail
     refine (AJoin_any g' cp W [32] W.length rfl _ HWC.out hg7 hcp7 (by omega) (by have := HTL.out; omega)).mono ?_
     rintro e w8 ⟨rfl, hb8⟩
     have HBr8 := Lib.hid (HBr7.out.trans (hb8.mono HBr7.out.size))
     have HOr8 := Lib.hid (aowns_later HOr7.out hb8)
     have z8 : w2.heap.size ≤ w8.heap.size := by have := hb8.size; omega
     clear hb8 HWC
     generalize Lib.join W [32] = T at *
     go_wp2_with (first | (at_builtin; refine wpList_append_lies _ (by rfl) (.tmp 117) (.tmp 120) 88 (by rfl) (w2.heap.size) 9 i0 _ 1 16 Tryd.underlying88 HINF.out HZ0.out HZ1.out HZ2.out rfl (by omega) (.slice og i oc) i (srow (texts S i)) (by rfl) (HOr8.out.alloc _) ⟨w8.heap.size, 0, none⟩ 1 1 [.string (bs T)] (by rfl) (by rfl) (World.news_of_block (cs := #[.string (bs T)]) (t := 9) (fr := (0, 0)) (heap_alloc_new w8 _)) (by simp [Value.oneCell']) (by omega) (by unfold maxLen; omega) (by omega) (by simp; omega) (w8.heap.size + 1) (by simp) ?_; intro gg cp9 w9 hown2 hgrow hat hlt1))
     go_roundw
     case rel =>
      go_light
      have hne : ∀ k, (Value.slice og i oc).ownBlock = some k → w2.heap.size ≤ k := fun k hk => (HOr8.out.lt k hk).1
      refine ⟨i + 1, hin1.out, by go_num, ?_, ⟨_, _, rfl⟩, ?_⟩
      ·rw [HSU.out]
       have e1 : srow (texts S i ++ [T]) = srow (texts S i) ++ [.string (bs T)] := by simp [srow]
       rw [e1]; exact hown2
      ·exact Below.grown ((HB.out.trans (HBr8.out.mono zr)).alloc z8 _) hgrow (by simp; omega) (fun k hk => hne k hk)
     case measure => simp [intOf]; omega
  ·obtain rfl : i = n := by omega
   obtain ⟨g, cp, hf, hgb⟩ := HOWN.out.form (by omega)
   injection hf with hf1 hf2 hf3
   subst hf1
   subst hf3
   have hcp : i ≤ oc := by
    rcases HOWN.out.2 with ⟨h1, h2⟩ | ⟨g', cap', cur, h1, h2, h3, h4, h5⟩
    ·omega
    ·injection h1 with a1 a2 a3; omega
   have hlen : (progText S i).length ≤ 140737488355328 := by
    have hl := join_length [59, 32] 200 (texts S i) (by
     intro x hx
     unfold texts at hx
     obtain ⟨j, hj, rfl⟩ := List.mem_map.1 hx
     have hj' := List.mem_range.1 hj
     obtain ⟨-, g2, -⟩ := wrong_ok (HW.out j hj')
     exact stepText_length _ (by unfold In64; omega) (by unfold In64; omega) (HIN.out j hj').1 (HIN.out j hj').2)
    rw [texts_length] at hl
    unfold progText
    have : i * ([59, 32].length + 200) ≤ 200 * 202 := Nat.mul_le_mul hn2 (by simp)
    omega
   have HLEN := Lib.hid hlen
   have HGB := Lib.hid hgb
   have HBW := Lib.hid (HB2.out.trans (HB.out.mono HB2.out.size))
   have HJr := Lib.hid (HJ2.out.later HB.out zE2)
   clear hlen hgb
   go_wp2_with fail
   refine (AJoin_any g oc (texts S i) [59, 32] i (texts_length S i) _ (srow_cells HOWN.out) HGB.out.2 hcp (by omega) HLEN.out).mono ?_
   rintro e w3 ⟨rfl, hb3⟩
   have HB3 := Lib.hid (HBW.out.trans (hb3.mono HBW.out.size))
   have HJ3 := Lib.hid (HJr.out.later hb3 (HJr.out.lt (by omega)))
   clear hb3
   go_wp2_with fail
   refine (Bare_any 0 _).mono ?_
   rintro e w4 ⟨rfl, hb4⟩
   have HBq := Lib.hid (HB3.out.trans (hb4.mono HB3.out.size))
   have IEq := HJ3.out.later hb4 (HJ3.out.lt (by omega))
   have zq : w.heap.size < w4.heap.size := IEq.lt (by omega)
   have e0 := IEq.cell 0 (by omega); have e1 := IEq.cell 1 (by omega)
   have s0 := IEq.free 0 (by omega); have s1 := IEq.free 1 (by omega)
   clear hb4 IEq
   try simp only at e0 e1
   go_wp2_with fail
   refine bodyPost_ret (v := .tuple #[.string (bs (Lib.join (texts S i) [59, 32])), .agg #[.int .i64 0, .int .i64 (-1)]]) ?_ rfl ⟨rfl, ?_⟩
   ·simp [results, Tryd.results10, go_sem, *]
   ·exact (HBq.out.setCell (by simp) _).setCell (by simp) _
/-- the reference's Write over any program -/
theorem RWrite_full (oa : Option Addr) (n cap : Nat) (S : Nat → Step) (hcap : n ≤ cap) (w : World) (hs : 0 < n → ∃ a, oa = some a ∧ Cells w a S n) (hin : ∀ j, j < n → In64 (S j).off ∧ In64 (S j).num) (ht : Tabs w) :
  Calls Tryd.prog 10 #[.slice oa n cap] w (RWIs w (writeRes S n)) := by
 unfold writeRes check
 by_cases h : n < 1 ∨ 200 < n
 ·rw [if_pos h, if_pos (by simp)]
  exact RWrite_err _ 4 (-1) (by decide) w fun w' hb => RefCheck_limit oa n cap h hcap w'
 ·rw [if_neg h]
  obtain ⟨a, ea, hs2⟩ := hs (by omega)
  subst ea
  by_cases h0 : (from_ S n 0 n).1 = 0
  ·rw [if_neg (by simp [h0])]
   refine RWrite_go a n cap S (by omega) (by omega) hcap w hs2 (fun j hj => (at_ok (from_ok n 0 (by omega) h0 j (by omega) hj)).1) hin ht fun w' hb => (RefCheck_some a n cap S (by omega) (by omega) hcap w' (hs2.later hb)).mono fun e w'' ⟨he, hb2⟩ => ⟨?_, hb2⟩
   rw [afrom_zero _ _ h0] at he
   exact he
  ·rw [if_pos h0]
   exact RWrite_err _ _ _ h0 w fun w' hb => RefCheck_some a n cap S (by omega) (by omega) hcap w' (hs2.later hb)
end Go.Proofs.YtfpoicdfkjbknaaDoor.W
