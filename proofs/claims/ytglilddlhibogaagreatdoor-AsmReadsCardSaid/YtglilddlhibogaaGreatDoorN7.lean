/- strings.SplitSeq at ';': the iterator's contract: the segments of the text, one behind the other. Conditions: the text is short. -/
import Derived.Test.YtglilddlhibogaaGreatDoorN1
import Derived.Test.YtglilddlhibogaaGreatDoorSeq
import Derived.Test.YtglilddlhibogaaGreatDoorPureWords
import Derived.RangeFuncBox
import Derived.RangeFuncBound
import Derived.RangeFuncCalls
import Derived.Shelf.Abstract
import Derived.Shelf.RegionOpen
import Derived.OwnWalkIn
import Derived.TacticsInMore
import Derived.LoopNIn
import Derived.LoopIn
namespace Go.Proofs.YtglilddlhibogaaGreatDoor.W
open Go.RowKit Go.Shelf Go.Proofs.YtglilddlhibogaaGreatDoor.P
set_option linter.unusedSimpArgs false
set_option linter.unusedVariables false

attribute [local go_sem] Oper.semAt_some

/-- the three variables that the iterator has captured -/
def SeqVars (W : World) (B : Nat) (s : List UInt8) : Prop := W.cell? ⟨B, 0, none⟩ = some (.string (bs s)) ∧ W.frozen? ⟨B, 0, none⟩ = false ∧ W.cell? ⟨B + 1, 0, none⟩ = some (.string (bs [59])) ∧ W.cell? ⟨B + 1 + 1, 0, none⟩ = some (.int .i64 0)
def seqFn (B : Nat) : Value := .func (.func 94) #[] #[.pointer (some ⟨B + 1, 0, none⟩), .pointer (some ⟨B, 0, none⟩), .pointer (some ⟨B + 1 + 1, 0, none⟩)]
/-- what a round keeps for the iterator -/
def SeqKp (B : Nat) (W W' : World) : Prop := ∀ k, B ≤ k → k ≤ B + 1 + 1 → W'.heap[k]? = W.heap[k]?
theorem SeqKp.trans {B : Nat} {X Y Z : World} (h : SeqKp B X Y) (k : SeqKp B Y Z) : SeqKp B X Z := fun i a b => (k i a b).trans (h i a b)
theorem SeqKp.put {B : Nat} (W : World) (l : Nat) (o : Obj) (h : B + 1 + 1 < l) : SeqKp B W (W.putObj l o) := fun i _ b => World.putObj_heap_other (by omega)
theorem SeqVars.kept {W W' : World} {B : Nat} {s : List UInt8} (h : SeqVars W B s) (k : SeqKp B W W') : SeqVars W' B s :=
 ⟨(World.cell?_of_block (k B (by omega) (by omega))).trans h.1, (World.frozen?_of_block (k B (by omega) (by omega))).trans h.2.1, (World.cell?_of_block (k (B + 1) (by omega) (by omega))).trans h.2.2.1, (World.cell?_of_block (k (B + 1 + 1) (by omega) (by omega))).trans h.2.2.2⟩
theorem SeqVars.below {n : Nat} {W W' : World} {B : Nat} {s : List UInt8} (h : SeqVars W B s) (hB : B + 1 + 1 < n) (k : Below n W W') : SeqVars W' B s :=
 h.kept fun i a b => k.block i (by omega)
theorem NSplit_in (s : List UInt8) (w : World) : Calls Tryz.prog 63 #[.string (bs s), .string (bs [59]), .int .i64 0] w fun e w' => e = .returned (seqFn w.heap.size) ∧ SeqVars w' w.heap.size s ∧ Below w.heap.size w w' ∧ w'.heap.size = w.heap.size + 1 + 1 + 1 ∧ Boxed w' w.heap.size 9 (.string (bs s)) := by
 go_enter Tryz.func63, Tryz.ntmps63
 go_wp2_with fail
 go_ret
 refine ⟨rfl, ⟨by simp [go_sem], by simp [go_sem], by simp [go_sem], by simp [go_sem]⟩, ?_, by simp, ((Boxed.new _ _ _).alloc _).alloc _⟩
 exact (((Below.refl _ w).alloc (Nat.le_refl _) _).alloc (by simp) _).alloc (by simp; omega) _
theorem NSplitSeq_any (s : List UInt8) (w : World) : Calls Tryz.prog 36 #[.string (bs s), .string (bs [59])] w fun e w' => e = .returned (seqFn w.heap.size) ∧ SeqVars w' w.heap.size s ∧ Below w.heap.size w w' ∧ w'.heap.size = w.heap.size + 1 + 1 + 1 ∧ Boxed w' w.heap.size 9 (.string (bs s)) := by
 go_enter Tryz.func36, Tryz.ntmps36
 go_wp2_with fail
 refine (NSplit_in s w).mono ?_
 rintro e w' ⟨rfl, h1, h2, h3, h4⟩
 unfold seqFn
 go_wp2_with fail
 go_ret
 exact ⟨rfl, h1, h2, h3, h4⟩
def seqLeft (B : Nat) (W : World) : Nat := match W.cell? ⟨B, 0, none⟩ with | some (.string b) => b.size | _ => 0
theorem seqLeft_eq {B : Nat} {W : World} {s : List UInt8} (h : SeqVars W B s) : seqLeft B W = s.length := by
 unfold seqLeft; rw [h.1]; simp [bs, ByteArray.size]
/-- strings.Index at ';' -/
def IdxSemi : Prop := ∀ (s : List UInt8) (w : World), s.length ≤ 100000 → Calls Tryz.prog 89 #[.string (bs s), .string (bs [59])] w fun e w' => e = .returned (.int .i64 (Lib.index s [59])) ∧ w = w'
set_option maxRecDepth 100000 in
set_option maxHeartbeats 4000000 in
theorem NSeq_iter (HX : IdxSemi) (s : List UInt8) (hs : s.length ≤ 100000) (B n : Nat) (hn : 1 ≤ n) (W0 : World) (hB : B + 1 + 1 < W0.heap.size) (hv : SeqVars W0 B s) :
  SeqBut Fence.wide n Tryz.prog 94 #[.pointer (some ⟨B + 1, 0, none⟩), .pointer (some ⟨B, 0, none⟩), .pointer (some ⟨B + 1 + 1, 0, none⟩)] (fun x : List UInt8 => .string (bs x)) B (SeqKp B) (cut1 59 s) W0 := by
 intro l J Jx W hW hJ hY h0
 have hv1 := hv.below hB hW
 refine callsIn_of_wp Tryz.func94 rfl trivial ?_ rfl
 simp only [Tryz.ntmps94, List.size_toArray, List.length_cons, List.length_nil, Nat.reduceAdd, Nat.reduceSub, Array.replicate_succ, Array.replicate_zero, List.push_toArray, List.append_toArray, List.nil_append, List.cons_append]
 have HV1 := Lib.hid hv1
 have c3 := hv1.2.2.1
 clear hv hv1
 have hs1 : ((bs [59]).size : Int) = 1 := by rfl
 gi_wp2
 gi_loopw [] (fun wr => ∃ pre rest, cut1 59 s = pre ++ cut1 59 rest ∧ rest.length ≤ 100000 ∧ SeqVars wr B rest ∧ J pre wr) (fun wr => seqLeft B wr)
 case atStart => exact ⟨[], s, rfl, hs, HV1.out, h0⟩
 case round =>
  obtain ⟨pre, rest, hcut, hlen, hvr, hJr⟩ := hrel
  have HVR := Lib.hid hvr
  have HCUT := Lib.hid hcut
  obtain ⟨d1, d2, d3, d4⟩ := hvr
  clear hcut c3
  have hleft := seqLeft_eq HVR.out
  rcases Lib.index_spec rest [59] with ⟨hm, _⟩ | ⟨i, hi, _⟩
  ·have hall := cut1_none 59 rest (index1_none hm)
   have HALL := Lib.hid hall
   have HM := Lib.hid hm
   clear hall hm
   obtain ⟨fn, tmps, assign, body, hy, hR⟩ := hY pre rest wr hJr (by rw [HCUT.out, HALL.out]; exact List.prefix_rfl)
   gi_wp2_with (refine ⟨trivial, ?_⟩; gi_at_call 89; refine (callsIn_wide.2 (HX rest _ hlen)).mono ?_; rintro e w' ⟨rfl, rfl⟩; rw [HM.out])
   refine hR.mono ?_
   rintro e W3 (⟨rfl, hJ3, hk3⟩ | ⟨rfl, hJx3⟩)
   ·gi_wp2
    go_end0
    exact ⟨⟨_, rfl⟩, .inl (by rw [HCUT.out, HALL.out]; exact hJ3)⟩
   ·gi_wp2
    go_end0
    exact ⟨⟨_, rfl⟩, .inr ⟨_, by rw [HCUT.out, HALL.out]; exact List.prefix_rfl, hJx3⟩⟩
  ·obtain ⟨h1, h2, h3⟩ := index1_hit hi
   have hc2 := cut1_hit hi
   have HC2 := Lib.hid hc2
   have HI := Lib.hid hi
   have hi0 : (i : Int) < rest.length := by omega
   have hsz : ((bs rest).size : Int) = rest.length := by simp [bs, ByteArray.size]
   have hi1 : (i : Int) ≤ (bs rest).size := by omega
   have hi2 : (i : Int) + 1 ≤ (bs rest).size := by omega
   clear hi h2 h3 hc2
   obtain ⟨fn, tmps, assign, body, hy, hR⟩ := hY pre (rest.take i) wr hJr (by rw [HCUT.out, HC2.out]; exact ⟨cut1 59 (rest.drop (i + 1)), by rw [List.append_assoc]; rfl⟩)
   have he1 : (bs rest).extract 0 i = bs (rest.take i) := by rw [bs_extract, List.drop_zero]
   gi_wp2_with (refine ⟨trivial, ?_⟩; gi_at_call 89; refine (callsIn_wide.2 (HX rest _ hlen)).mono ?_; rintro e w' ⟨rfl, rfl⟩; rw [HI.out])
   refine hR.mono ?_
   rintro e W3 (⟨rfl, hJ3, hk3⟩ | ⟨rfl, hJx3⟩)
   ·have HV3 := Lib.hid (HVR.out.kept hk3)
    obtain ⟨d1, d2, d3, d4⟩ := HVR.out.kept hk3
    have he2 : (bs rest).extract (i + 1) (bs rest).size = bs (rest.drop (i + 1)) := by
     rw [show (bs rest).size = rest.length by simp [bs, ByteArray.size], bs_extract, List.take_length]
    gi_wp2
    have HV4 : SeqVars (W3.setCell ⟨B, 0, none⟩ (.string (bs (rest.drop (i + 1))))) B (rest.drop (i + 1)) :=
     ⟨World.cell?_setCell_same' _ _ _ (by rw [d1]; rfl), by rw [World.frozen?_setCell]; exact d2, by rw [World.cell?_setCell_other _ _ _ _ (by simp)]; exact d3, by rw [World.cell?_setCell_other _ _ _ _ (by simp)]; exact d4⟩
    go_roundw
    case rel => exact ⟨pre ++ [rest.take i], rest.drop (i + 1), by rw [HCUT.out, HC2.out]; simp, by simp; omega, HV4, hJ _ _ _ hJ3⟩
    case measure => rw [seqLeft_eq HV4, hleft]; simp; omega
   ·gi_wp2
    refine bodyPost_ret (results_none rfl _ _ _) rfl ?_
    exact ⟨⟨_, rfl⟩, .inr ⟨_, by rw [HCUT.out, HC2.out]; exact ⟨cut1 59 (rest.drop (i + 1)), by rw [List.append_assoc]; rfl⟩, hJx3⟩⟩
end Go.Proofs.YtglilddlhibogaaGreatDoor.W
