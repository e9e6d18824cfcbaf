/- asm.Write: by contract. Conditions: the program's cells are known, its numbers are int64's; the tables lie in the world; the variable errors.errorType holds the type error's handle. -/
import Derived.Test.YtpdlmbbgioenoaaGreatDoorA2
import Derived.Test.YtpdlmbbgioenoaaGreatDoorIs
import Derived.Deep.AppendLies
import Derived.Deep.LoopGhost
namespace Go.Proofs.YtpdlmbbgioenoaaGreatDoor.W
open Go.RowKit Go.Proofs.YtpdlmbbgioenoaaGreatDoor.P
set_option linter.unusedSimpArgs false
set_option linter.unusedVariables false

theorem aerr_nil {w : World} {v : Value} {p : Int} (h : ErrIs w v 0 p) : v = .nilIface := by
 rcases h with ⟨h, -, -⟩ | ⟨h, -⟩ | ⟨h, -⟩
 ·exact h
 ·exact absurd rfl h
 ·exact absurd rfl h
theorem aerr_iface {w : World} {v : Value} {n p : Int} (h : ErrIs w v n p) (hn : n ≠ 0) : ∃ t x, v = .iface t x := by
 rcases h with ⟨-, h, -⟩ | ⟨-, h, -⟩ | ⟨-, b, h, -⟩
 ·exact absurd h hn
 ·exact ⟨_, _, h⟩
 ·exact ⟨_, _, h⟩
theorem afrom_zero {S : Nat → Step} {n : Nat} : ∀ (k i : Nat), (from_ S n i k).1 = 0 → from_ S n i k = (0, -1)
 | 0, i, _ => rfl
 | k + 1, i, h => by
  unfold from_ at h ⊢
  by_cases ha : at_ S n i = 0
  ·rw [if_neg (by simp [ha])] at h ⊢
   exact afrom_zero k (i + 1) h
  ·rw [if_pos ha] at h
   exact absurd h ha
def srow (l : List (List UInt8)) : List Value := l.map fun x => .string (bs x)
theorem infoString : ((Tryz.prog).info? 9).map (fun i => (i.zero, i.size, i.bytes)) = some (some (.string ⟨#[]⟩), 1, 16) := by kernel_rfl
theorem aowns_later {w w' : World} {base : Nat} {e : TypeId} {size : Nat} {v : Value} {n : Nat} {xs : List Value} (h : w.ownsRow base e size v n xs) (hb : Below w.heap.size w w') : w'.ownsRow base e size v n xs := by
 have hl := h.lt
 refine ⟨h.1, ?_⟩
 rcases h.2 with hn | ⟨g, cap, cur, rfl, hb', hgg, rest⟩
 ·exact .inl hn
 ·exact .inr ⟨g, cap, cur, rfl, hb', (hb.block g (hl g rfl).2).trans hgg, rest⟩
/-- what writing a program gives -/
def writeRes (S : Nat → Step) (n : Nat) : (Int × Int) × List UInt8 := if (check S n).1 ≠ 0 then (check S n, []) else ((0, -1), progText S n)
def AWIs (w : World) (r : (Int × Int) × List UInt8) (e : Ending) (w' : World) : Prop := ∃ v, e = .returned (.tuple #[.string (bs r.2), v]) ∧ ErrIs w' v r.1.1 r.1.2 ∧ Below w.heap.size w w'
theorem AJoin_any (g cap : Nat) (l : List (List UInt8)) (sep : List UInt8) (m : Nat) (hm : l.length = m) (w : World) (hc : ∀ (j : Nat) x, l[j]? = some x → w.cell? ⟨g, j, none⟩ = some (.string (bs x))) (hg : g < w.heap.size) (hcap : m ≤ cap) (hN : m ≤ 140737488355328) (hlen : (Lib.join l sep).length ≤ 140737488355328) :
  Calls Tryz.prog 59 #[.slice (some ⟨g, 0, none⟩) m cap, .string (bs sep)] w fun e w' => e = .returned (.string (bs (Lib.join l sep))) ∧ Below w.heap.size w w' := by
 subst hm
 have e1 : (bs sep).data.toList = sep := bs_data sep
 have K := Tryz.strings_Join g 0 cap (l.map bs) (bs sep) w (fun j x hx => by
  rw [List.getElem?_map, Option.map_eq_some_iff] at hx
  obtain ⟨y, hy, rfl⟩ := hx
  rw [Nat.zero_add]; exact hc j y hy) hg (by simpa using hN) (by simpa using hcap) (by rw [bs_map, e1]; exact hlen)
 rw [bs_map, e1, List.length_map] at K
 exact K
theorem srow_cells {w : World} {base : Nat} {e : TypeId} {g m cap : Nat} {l : List (List UInt8)} (h : w.ownsRow base e 1 (.slice (some ⟨g, 0, none⟩) m cap) m (srow l)) : ∀ (j : Nat) x, l[j]? = some x → w.cell? ⟨g, j, none⟩ = some (.string (bs x)) := by
 intro j x hx
 have := h.cells (g := g) rfl j (.string (bs x)) (by unfold srow; rw [List.getElem?_map, hx]; rfl)
 have hadd : (⟨g, 0, none⟩ : Addr).add j = ⟨g, j, none⟩ := by unfold Addr.add; split <;> simp_all
 rwa [hadd] at this

set_option maxRecDepth 100000 in
set_option maxHeartbeats 4000000 in
theorem AWrite_err (l : Value) (er p : Int) (he : er ≠ 0) (w : World) (hch : ∀ w', Below w.heap.size w w' → Calls Tryz.prog 28 #[l] w' fun e w'' => ∃ v, e = .returned v ∧ ErrIs w'' v er p ∧ Below w'.heap.size w' w'') :
  Calls Tryz.prog 24 #[l] w (AWIs w ((er, p), [])) := by
 have HCH := Lib.hid hch
 clear hch
 go_enter Tryz.func24, Tryz.ntmps24
 go_wp2_with fail
 refine (HCH.out _ (Below.refl _ _)).mono ?_
 rintro e w1 ⟨v, rfl, hE, hb⟩
 obtain ⟨ty, xv, rfl⟩ := aerr_iface hE he
 have HE := Lib.hid hE
 have HB := Lib.hid hb
 have HNE := Lib.hid he
 clear hE hb he
 go_wp2_with fail
 refine bodyPost_ret (v := .tuple #[.string ⟨#[]⟩, .iface ty xv]) ?_ rfl ⟨_, rfl, HE.out, HB.out⟩
 simp [results, Tryz.results24, go_sem]

set_option maxRecDepth 100000 in
set_option maxHeartbeats 16000000 in
theorem AWrite_go (a : Addr) (n cap : Nat) (S : Nat → Step) (hn : 1 ≤ n) (hn2 : n ≤ 200) (hcap : n ≤ cap) (w : World) (hs : Cells w a S n) (hw : ∀ j, j < n → (S j).wrong = 0) (hin : ∀ j, j < n → In64 (S j).off ∧ In64 (S j).num) (ht : Tabs w)
  (hch : ∀ w', Below w.heap.size w w' → Calls Tryz.prog 28 #[.slice (some a) n cap] w' fun e w'' => ∃ v, e = .returned v ∧ ErrIs w'' v 0 (-1) ∧ Below w'.heap.size w' w'') :
  Calls Tryz.prog 24 #[.slice (some a) n cap] w (AWIs w ((0, -1), progText S n)) := by
 have HCH := Lib.hid hch
 have HS := Lib.hid hs
 have HW := Lib.hid hw
 have HIN := Lib.hid hin
 have HT := Lib.hid ht
 clear hch hs hw hin ht
 go_enter Tryz.func24, Tryz.ntmps24
 go_wp2_with fail
 refine (HCH.out _ (Below.refl _ _)).mono ?_
 rintro e w1 ⟨v, rfl, hE, hb⟩
 obtain rfl := aerr_nil hE
 have HB1 := Lib.hid hb
 have HS1 := Lib.hid (HS.out.later hb)
 have HT1 := Lib.hid (HT.out.later hb)
 clear hE hb HCH
 obtain ⟨i0, hi0, hz0, hz1, hz2⟩ := info_parts infoString
 have HINF := Lib.hid hi0
 have HZ0 := Lib.hid hz0; have HZ1 := Lib.hid hz1; have HZ2 := Lib.hid hz2
 clear hi0 hz0 hz1 hz2
 go_wp2_with fail
 go_loopw [15, 5] (fun k lv wr => ∃ i : Nat, i ≤ n ∧ k = .int .i64 i ∧ wr.ownsRow w1.heap.size 9 1 lv i (srow (texts S i)) ∧ (∃ og oc, lv = .slice og i oc) ∧ Below w1.heap.size w1 wr) (fun k _ _ => n - (intOf k).toNat)
 case atStart => exact ⟨0, by omega, rfl, World.ownsRow_nil _ _ _ _, ⟨none, 0, rfl⟩, Below.refl _ _⟩
 case round =>
  obtain ⟨i, him, rfl, hown, ⟨og, oc, rfl⟩, hB⟩ := hrel
  have HOWN := Lib.hid hown
  have HB := Lib.hid hB
  have HSr := Lib.hid (HS1.out.later hB)
  have HTr := Lib.hid (HT1.out.later hB)
  have zr : w1.heap.size ≤ wr.heap.size := hB.size
  clear hown hB
  by_cases h : i < n
  ·obtain ⟨e0, e1, e2, e3, e4, e5⟩ := HSr.out i h
   have l0 := block_lt_of_cell e0
   have hwi := HW.out i h
   have hii := HIN.out i h
   have hsucc := texts_succ S i
   obtain ⟨t, hT⟩ : ∃ t, S i = t := ⟨_, rfl⟩
   rw [hT] at e0 e1 e2 e3 e4 e5 hwi hii hsucc
   obtain ⟨c, d, sr, r, o, nn⟩ := t
   simp only at e0 e1 e2 e3 e4 e5 hii
   have HWI := Lib.hid hwi
   have HII := Lib.hid hii
   have HSU := Lib.hid hsucc
   have i1 : (i : Int) < n := by omega
   have hin1 : Hid (i + 1 ≤ n) := (by omega : i + 1 ≤ n)
   clear hwi hii hsucc hT
   go_upto_region 8 with fail
   generalize hWx : World.alloc wr _ = wx
   have IX : P.Img wx wr.heap.size 6 (astepimg c d sr r o nn) := hWx ▸ aimg_at (heap_alloc_new wr _)
   have hbx : Below wr.heap.size wr wx := hWx ▸ (Below.refl _ _).alloc (Nat.le_refl _) _
   have HBX := Lib.hid hbx
   have HTX := Lib.hid (HTr.out.later hbx)
   have HOX := Lib.hid (aowns_later HOWN.out hbx)
   obtain ⟨f0, f1, f2, f3, f4, f5⟩ := acells IX
   clear e0 e1 e2 e3 e4 e5 l0 hWx hbx IX
   go_wp2_with fail
   refine (AStep_any ⟨c, d, sr, r, o, nn⟩ HWI.out HII.out.1 HII.out.2 _ HTX.out).mono ?_
   rintro e w2 ⟨rfl, hb2⟩
   have HB2 := Lib.hid (HB.out.trans ((HBX.out.trans (hb2.mono HBX.out.size)).mono zr))
   have HO2 := Lib.hid (aowns_later HOX.out hb2)
   clear hb2 f0 f1 f2 f3 f4 f5
   generalize stepText ⟨c, d, sr, r, o, nn⟩ = T at *
   go_wp2_with (first | (at_builtin; refine wpList_append_lies _ (by rfl) (.tmp 19) (.tmp 22) 135 (by rfl) (w1.heap.size) 9 i0 _ 1 16 Tryz.underlying135 HINF.out HZ0.out HZ1.out HZ2.out rfl (by omega) (.slice og i oc) i (srow (texts S i)) (by rfl) (HO2.out.alloc _) ⟨w2.heap.size, 0, none⟩ 1 1 [.string (bs T)] (by rfl) (by rfl) (World.news_of_block (cs := #[.string (bs T)]) (t := 9) (fr := (0, 0)) (heap_alloc_new w2 _)) (by simp [Value.oneCell']) (by omega) (by unfold maxLen; omega) (by omega) (by simp; have := HB2.out.size; omega) (w2.heap.size + 1) (by simp) ?_; intro gg cp w3 hown2 hgrow hat hlt1))
   go_roundw
   case rel =>
    go_light
    have hne : ∀ g, (Value.slice og i oc).ownBlock = some g → w1.heap.size ≤ g := fun g hg => (HO2.out.lt g hg).1
    refine ⟨i + 1, hin1.out, by go_num, ?_, ⟨_, _, rfl⟩, ?_⟩
    ·rw [HSU.out]
     have e1 : srow (texts S i ++ [T]) = srow (texts S i) ++ [.string (bs T)] := by simp [srow]
     rw [e1]; exact hown2
    ·exact Below.grown (HB2.out.alloc HB2.out.size _) hgrow (by simp; have := HB2.out.size; omega) (fun g hg => hne g hg)
   case measure => simp [intOf]; omega
  ·obtain rfl : i = n := by omega
   obtain ⟨g, cp, hf, hgb⟩ := HOWN.out.form (by omega)
   injection hf with hf1 hf2 hf3
   subst hf1
   subst hf3
   have hcp : i ≤ oc := by
    rcases HOWN.out.2 with ⟨h1, h2⟩ | ⟨g', cap', cur, h1, h2, h3, h4, h5⟩
    ·omega
    ·injection h1 with a1 a2 a3; omega
   have hlen : (progText S i).length ≤ 140737488355328 := by
    have hl := join_length [59, 32] 200 (texts S i) (by
     intro x hx
     unfold texts at hx
     obtain ⟨j, hj, rfl⟩ := List.mem_map.1 hx
     have hj' := List.mem_range.1 hj
     obtain ⟨-, g2, -⟩ := wrong_ok (HW.out j hj')
     exact stepText_length _ (by unfold In64; omega) (by unfold In64; omega) (HIN.out j hj').1 (HIN.out j hj').2)
    rw [texts_length] at hl
    unfold progText
    have : i * ([59, 32].length + 200) ≤ 200 * 202 := Nat.mul_le_mul hn2 (by simp)
    omega
   have HLEN := Lib.hid hlen
   have HGB := Lib.hid hgb
   clear hlen hgb
   go_wp2_with fail
   refine (AJoin_any g oc (texts S i) [59, 32] i (texts_length S i) _ (srow_cells HOWN.out) HGB.out.2 hcp (by omega) HLEN.out).mono ?_
   rintro e w3 ⟨rfl, hb3⟩
   have HB3 := Lib.hid (HB1.out.trans ((HB.out.trans (hb3.mono zr)).mono HB1.out.size))
   clear hb3
   go_wp2_with fail
   refine bodyPost_ret (v := .tuple #[.string (bs (Lib.join (texts S i) [59, 32])), .nilIface]) ?_ rfl ⟨_, rfl, .inl ⟨rfl, rfl, rfl⟩, HB3.out⟩
   simp [results, Tryz.results24, go_sem]

/-- asm.Write over any program -/
theorem AWrite_full (oa : Option Addr) (n cap : Nat) (S : Nat → Step) (hcap : n ≤ cap) (w : World) (hs : 0 < n → ∃ a, oa = some a ∧ Cells w a S n) (hin : ∀ j, j < n → In64 (S j).off ∧ In64 (S j).num) (ht : Tabs w) (hg : w.cell? ⟨4, 0, none⟩ = some (.iface 298 (.agg #[.pointer (some ⟨14, 26, none⟩)]))) :
  Calls Tryz.prog 24 #[.slice oa n cap] w (AWIs w (writeRes S n)) := by
 have gz := block_lt_of_cell hg
 unfold writeRes check
 by_cases h : n < 1 ∨ 200 < n
 ·rw [if_pos h, if_pos (by simp)]
  exact AWrite_err _ 4 (-1) (by decide) w fun w' hb => (Check_limit oa n cap h hcap w').mono fun e w'' ⟨he, hw⟩ => ⟨_, he, .inr (.inl ⟨by decide, rfl, rfl⟩), by rw [hw]; exact Below.refl _ _⟩
 ·rw [if_neg h]
  obtain ⟨a, ea, hs2⟩ := hs (by omega)
  subst ea
  by_cases h0 : (from_ S n 0 n).1 = 0
  ·rw [if_neg (by simp [h0])]
   refine AWrite_go a n cap S (by omega) (by omega) hcap w hs2 (fun j hj => (at_ok (from_ok n 0 (by omega) h0 j (by omega) hj)).1) hin ht fun w' hb => (Check_some a n cap S (by omega) (by omega) hcap w' (hs2.later hb) ((hb.cell gz).trans hg)).mono fun e w'' ⟨v, he, hv, hb2⟩ => ⟨v, he, ?_, hb2⟩
   rw [afrom_zero _ _ h0] at hv
   exact hv
  ·rw [if_pos h0]
   exact AWrite_err _ _ _ h0 w fun w' hb => (Check_some a n cap S (by omega) (by omega) hcap w' (hs2.later hb) ((hb.cell gz).trans hg)).mono fun e w'' ⟨v, he, hv, hb2⟩ => ⟨v, he, hv, hb2⟩
end Go.Proofs.YtpdlmbbgioenoaaGreatDoor.W
