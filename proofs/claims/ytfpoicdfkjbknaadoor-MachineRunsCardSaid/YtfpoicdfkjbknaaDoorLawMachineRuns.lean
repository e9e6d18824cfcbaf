/- MachineRuns: the walk of the law: what machine.Run gives is what the reference's Run gives. Conditions: the program's cells are known, its numbers are int64's; the variable errors.errorType holds the type error's handle. -/
import Derived.Test.YtfpoicdfkjbknaaDoorRunFull
import Derived.Test.YtfpoicdfkjbknaaDoorR10
import Derived.Test.YtfpoicdfkjbknaaDoorTableEq
import Derived.Deep.DeepCutAuto
import Derived.Deep.CutBlock
import Derived.Test.YtfpoicdfkjbknaaDoorIs
namespace Go.Proofs.YtfpoicdfkjbknaaDoor.W
open Go.RowKit Go.Proofs.YtfpoicdfkjbknaaDoor.P
set_option linter.unusedSimpArgs false
set_option linter.unusedVariables false

theorem wpList_load_on {P : Program} {ops : Array Oper} {rest : List Oper} {op : Oper} {a : Act} {w : World} {Q : Exit → Act → World → Prop} (hw : Region.wanted op (yielded ops a.tmps) = true) (ty : TypeId) (x : Operand) (ho : op.op = .load ty x)
    (b o : Nat) (hx : a.eval x = .pointer (some ⟨b, o, none⟩)) (cs : List Value) (d : TypeDesc) (hc : w.rangeAt b o cs) (hu : P.underlying ty = some d) (hd : d.isRow = true) (hi : (P.info? ty).map (·.size) = some cs.length)
    (h : wpList P ops Q rest (a.put op.dst (.agg cs.toArray)) w) : wpList P ops Q (op :: rest) a w :=
  wpList_step fun _ hK => by
    rw [if_pos hw]
    exact wp_load_mid ty x ho b o hx cs d hc hu hd hi (hK _ _ h)
theorem size_tab (c0 c1 c2 c3 c4 c5 c6 c7 c8 c9 c10 c11 c12 c13 c14 c15 : Int) : (Tryd.prog.info? 26).map (·.size) = some (List.length ([.int .i64 c0, .int .i64 c1, .int .i64 c2, .int .i64 c3, .int .i64 c4, .int .i64 c5, .int .i64 c6, .int .i64 c7, .int .i64 c8, .int .i64 c9, .int .i64 c10, .int .i64 c11, .int .i64 c12, .int .i64 c13, .int .i64 c14, .int .i64 c15] : List Value)) := size_table
theorem _root_.Go.Proofs.YtfpoicdfkjbknaaDoor.P.Img.range {w : World} {b n : Nat} {I : Nat → Value} (h : P.Img w b n I) (o m : Nat) (hm : o + m ≤ n) (cs : List Value) (e : cs = (List.range m).map fun j => I (o + j)) : w.rangeAt b o cs := by
  intro j v hv
  rw [e] at hv
  have hj : j < m := by have := (List.getElem?_eq_some_iff.1 hv).1; simpa using this
  rw [h.cell (o + j) (by omega), ← hv]
  simp [hj]
theorem size_ranv (n c0 c1 c2 c3 c4 c5 c6 c7 c8 c9 c10 c11 c12 c13 c14 c15 st : Int) (og : Option Addr) (len cap : Nat) : (Tryd.prog.info? 35).map (·.size) = some (Array.size (#[.int .i64 n, .int .i64 c0, .int .i64 c1, .int .i64 c2, .int .i64 c3, .int .i64 c4, .int .i64 c5, .int .i64 c6, .int .i64 c7, .int .i64 c8, .int .i64 c9, .int .i64 c10, .int .i64 c11, .int .i64 c12, .int .i64 c13, .int .i64 c14, .int .i64 c15, .slice og len cap, .int .i64 st] : Array Value)) := size_ran
theorem size_rranv (n c0 c1 c2 c3 c4 c5 c6 c7 c8 c9 c10 c11 c12 c13 c14 c15 st : Int) (og : Option Addr) (len cap : Nat) : (Tryd.prog.info? 29).map (·.size) = some (Array.size (#[.int .i64 n, .int .i64 c0, .int .i64 c1, .int .i64 c2, .int .i64 c3, .int .i64 c4, .int .i64 c5, .int .i64 c6, .int .i64 c7, .int .i64 c8, .int .i64 c9, .int .i64 c10, .int .i64 c11, .int .i64 c12, .int .i64 c13, .int .i64 c14, .int .i64 c15, .slice og len cap, .int .i64 st] : Array Value)) := size_rran
theorem there_new {w : World} {c : Array Value} {t : TypeId} {n : Nat} (h : c.size = n) : (w.alloc (.cells c t (0, 0))).there w.heap.size 0 n := by
  subst h
  refine there_img (I := fun j => c.getD j undef) (Img.of_cells (heap_alloc_new w _) rfl fun j hj => ?_)
  simp [hj]
theorem there_new2 {w : World} {o : Obj} {c : Array Value} {t : TypeId} {n : Nat} (h : c.size = n) : ((w.alloc o).alloc (.cells c t (0, 0))).there (w.heap.size + 1) 0 n := by
  have := there_new (w := w.alloc o) (t := t) h
  simpa using this
theorem _root_.Go.Proofs.YtfpoicdfkjbknaaDoor.P.Img.put {w : World} {b : Nat} {vs : List Value} (ht : w.there b 0 vs.length) : P.Img (w.setCells b 0 vs) b vs.length (fun j => vs.getD j undef) := by
  intro j hj
  have h := World.rangeAt_setCells_same w b 0 vs ht j (vs.getD j undef) (by simp [hj])
  rw [Nat.zero_add] at h
  refine ⟨h, ?_⟩
  rw [World.frozen?_setCells]
  have := (ht j hj).2
  rwa [Nat.zero_add] at this
theorem _root_.Go.Proofs.YtfpoicdfkjbknaaDoor.P.Img.apart {w : World} {b n g o : Nat} {I : Nat → Value} {vs : List Value} (h : P.Img w b n I) (hne : b ≠ g) : P.Img (w.setCells g o vs) b n I := by
  intro j hj
  refine ⟨?_, ?_⟩
  · rw [World.cell?_setCells_out g vs o w ⟨b, j, none⟩ (fun e => absurd e hne)]; exact h.cell j hj
  · rw [World.frozen?_setCells]; exact h.free j hj
theorem machineRuns_big (oa : Option Addr) (n cap : Nat) (told cells : Nat → Int) (time : Int) (h : 300 < n) (w : World) :
    Calls Tryd.prog 3 #[.slice oa n cap, words8 told, words16 cells, .int .i64 time] w fun e w' => e = .returned (.bool true) ∧ Below w.heap.size w w' := by
  have HW0 := Lib.hid (Below.refl w.heap.size w)
  unfold words8 words16
  have h3 : 300 < (n : Int) := by omega
  go_enter Tryd.func3, Tryd.ntmps3
  go_wp2_with fail
  go_ret
  exact ⟨rfl, (by repeat' (first | with_reducible exact HW0.out | with_reducible exact Below.refl _ _ | with_reducible refine Below.drew ?_ | with_reducible refine Below.drewN' ?_ _ | with_reducible refine Below.alloc ?_ ?_ _ | with_reducible refine Below.setCell ?_ ?_ _ | (simp; done) | (simp; omega) | omega))⟩

set_option maxRecDepth 100000 in
set_option maxHeartbeats 16000000 in
theorem machineRuns_walk (oa : Option Addr) (n cap : Nat) (S : Nat → Step) (hcap : n ≤ cap) (told cells : Nat → Int) (time : Int) (h : ¬ 300 < n) (w : World) (hs : ProgAt w oa S n) (hin : ∀ j, j < n → In64 (S j).off ∧ In64 (S j).num) (ht : ∀ r, In64 (told r)) (hce : ∀ r, In64 (cells r)) (htm : In64 time) (hg : w.cell? ⟨5, 0, none⟩ = some (.iface 217 (.agg #[.pointer (some ⟨10, 37, none⟩)]))) :
    Calls Tryd.prog 3 #[.slice oa n cap, words8 told, words16 cells, .int .i64 time] w fun e w' => e = .returned (.bool true) ∧ Below w.heap.size w w' := by
  have HW0 := Lib.hid (Below.refl w.heap.size w)
  unfold words8 words16
  have h3 : ¬ 300 < (n : Int) := by omega
  have gz := block_lt_of_cell hg
  have C1 := fun w' (hb : Below w.heap.size w w') => RefRun_full oa n cap S hcap told cells time w' (hs.later hb) hin ht hce htm
  have C2 := fun w' (hb : Below w.heap.size w w') => Run_full oa n cap S hcap told cells time w' (hs.later hb) ((hb.cell gz).trans hg)
  unfold rwords8 rwords16 at C1
  unfold words8 words16 at C2
  generalize outcome S n told cells time = X at C1 C2
  have HC1 := Lib.hid C1
  have HC2 := Lib.hid C2
  have HG := Lib.hid hg
  clear C1 C2 hs hg hin ht hce htm
  go_enter Tryd.func3, Tryd.ntmps3
  cases X with
  | inl x =>
    obtain ⟨er, p⟩ := x
    go_upto_region 3 with fail
    go_cut [9, 10] (fun p9 p10 wx => ∃ g : Nat, p9 = .pointer (some ⟨g, 0, none⟩) ∧ p10 = .pointer (some ⟨g + 1, 0, none⟩) ∧ w.heap.size + 1 < g ∧ Img wx g 19 (fun j => ([.int .i64 0, .int .i64 0, .int .i64 0, .int .i64 0, .int .i64 0, .int .i64 0, .int .i64 0, .int .i64 0, .int .i64 0, .int .i64 0, .int .i64 0, .int .i64 0, .int .i64 0, .int .i64 0, .int .i64 0, .int .i64 0, .int .i64 0, .slice none 0 0, .int .i64 0] : List Value).getD j undef) ∧ Img wx (g + 1) 2 (fun j => ([.int .i64 er, .int .i64 p] : List Value).getD j undef) ∧ Img wx w.heap.size 8 (fun j => ([.int .i64 (told 0), .int .i64 (told 1), .int .i64 (told 2), .int .i64 (told 3), .int .i64 (told 4), .int .i64 (told 5), .int .i64 (told 6), .int .i64 (told 7)] : List Value).getD j undef) ∧ Img wx (w.heap.size + 1) 16 (fun j => ([.int .i64 (cells 0), .int .i64 (cells 1), .int .i64 (cells 2), .int .i64 (cells 3), .int .i64 (cells 4), .int .i64 (cells 5), .int .i64 (cells 6), .int .i64 (cells 7), .int .i64 (cells 8), .int .i64 (cells 9), .int .i64 (cells 10), .int .i64 (cells 11), .int .i64 (cells 12), .int .i64 (cells 13), .int .i64 (cells 14), .int .i64 (cells 15)] : List Value).getD j undef) ∧ er ≠ 0 ∧ Below w.heap.size w wx)
    case first =>
      as_aux_lemma =>
        have I80 : Img (World.alloc (World.alloc w (.cells #[.int .i64 (told 0), .int .i64 (told 1), .int .i64 (told 2), .int .i64 (told 3), .int .i64 (told 4), .int .i64 (told 5), .int .i64 (told 6), .int .i64 (told 7)] 23)) (.cells #[.int .i64 (cells 0), .int .i64 (cells 1), .int .i64 (cells 2), .int .i64 (cells 3), .int .i64 (cells 4), .int .i64 (cells 5), .int .i64 (cells 6), .int .i64 (cells 7), .int .i64 (cells 8), .int .i64 (cells 9), .int .i64 (cells 10), .int .i64 (cells 11), .int .i64 (cells 12), .int .i64 (cells 13), .int .i64 (cells 14), .int .i64 (cells 15)] 26)) w.heap.size 8 (fun j => ([.int .i64 (told 0), .int .i64 (told 1), .int .i64 (told 2), .int .i64 (told 3), .int .i64 (told 4), .int .i64 (told 5), .int .i64 (told 6), .int .i64 (told 7)] : List Value).getD j undef) := Img.alloc (Img.mk' (heap_alloc_new w _) (by kernel_rfl)) _
        have I160 : Img (World.alloc (World.alloc w (.cells #[.int .i64 (told 0), .int .i64 (told 1), .int .i64 (told 2), .int .i64 (told 3), .int .i64 (told 4), .int .i64 (told 5), .int .i64 (told 6), .int .i64 (told 7)] 23)) (.cells #[.int .i64 (cells 0), .int .i64 (cells 1), .int .i64 (cells 2), .int .i64 (cells 3), .int .i64 (cells 4), .int .i64 (cells 5), .int .i64 (cells 6), .int .i64 (cells 7), .int .i64 (cells 8), .int .i64 (cells 9), .int .i64 (cells 10), .int .i64 (cells 11), .int .i64 (cells 12), .int .i64 (cells 13), .int .i64 (cells 14), .int .i64 (cells 15)] 26)) (w.heap.size + 1) 16 (fun j => ([.int .i64 (cells 0), .int .i64 (cells 1), .int .i64 (cells 2), .int .i64 (cells 3), .int .i64 (cells 4), .int .i64 (cells 5), .int .i64 (cells 6), .int .i64 (cells 7), .int .i64 (cells 8), .int .i64 (cells 9), .int .i64 (cells 10), .int .i64 (cells 11), .int .i64 (cells 12), .int .i64 (cells 13), .int .i64 (cells 14), .int .i64 (cells 15)] : List Value).getD j undef) := Img.mk' (by simpa using heap_alloc_new (World.alloc w _) _) (by kernel_rfl)
        have H80 := Lib.hid I80
        have H160 := Lib.hid I160
        clear I80 I160
        go_wp2_with fail
        refine (HC1.out _ (by repeat' (first | with_reducible exact HW0.out | with_reducible refine Below.alloc ?_ ?_ _ | (simp; done) | (simp; omega) | omega))).mono ?_
        rintro e w1 ⟨⟨v, f, rfl, hR⟩, hb⟩
        have z10 : w.heap.size + 1 < w1.heap.size := by have := hb.size; simp at this; omega
        have HW1 := Lib.hid (show Below w.heap.size w w1 from Below.trans (by repeat' (first | with_reducible exact HW0.out | with_reducible refine Below.alloc ?_ ?_ _ | (simp; done) | (simp; omega) | omega)) (hb.mono (by first | (simp; done) | (simp; omega) | omega)))
        have H81 := Lib.hid (H80.out.later hb (by simp; omega))
        have H161 := Lib.hid (H160.out.later hb (by simp))
        clear hb H80 H160
        obtain ⟨hv, hf, hne⟩ := hR
        have HV := Lib.hid hv
        have HFV := Lib.hid hf
        clear hv hf
        go_wp2_with (first | (with_reducible refine wpList_store_mid rfl 29 (.tmp 9) (.tmp 22) rfl w1.heap.size 0 #[.int .i64 0, .int .i64 0, .int .i64 0, .int .i64 0, .int .i64 0, .int .i64 0, .int .i64 0, .int .i64 0, .int .i64 0, .int .i64 0, .int .i64 0, .int .i64 0, .int .i64 0, .int .i64 0, .int .i64 0, .int .i64 0, .int .i64 0, .slice none 0 0, .int .i64 0] (by simp [go_sem]; done) (by simp [go_sem]; exact HV.out) (World.there_alloc (there_new (by kernel_rfl)) _) size_rranz one_ranz ?_) | (with_reducible refine wpList_store_mid rfl 32 (.tmp 10) (.tmp 23) rfl (w1.heap.size + 1) 0 #[.int .i64 er, .int .i64 p] (by simp [go_sem]; done) (by simp [go_sem]; exact HFV.out) (World.there_setCells (there_new2 (by kernel_rfl)) _ _ _) (size_two _ _) (one_two _ _) ?_))
        go_meet
        go_light
        refine ⟨w1.heap.size, rfl, rfl, z10, ?_, ?_, ?_, ?_, hne, ?_⟩
        · exact (Img.put (vs := [.int .i64 0, .int .i64 0, .int .i64 0, .int .i64 0, .int .i64 0, .int .i64 0, .int .i64 0, .int .i64 0, .int .i64 0, .int .i64 0, .int .i64 0, .int .i64 0, .int .i64 0, .int .i64 0, .int .i64 0, .int .i64 0, .int .i64 0, .slice none 0 0, .int .i64 0]) (World.there_alloc (there_new (by kernel_rfl)) _)).apart (by omega)
        · exact Img.put (vs := [.int .i64 er, .int .i64 p]) (World.there_setCells (there_new2 (by kernel_rfl)) _ _ _)
        · exact (((H81.out.alloc _).alloc _).apart (by omega)).apart (by omega)
        · exact (((H161.out.alloc _).alloc _).apart (by omega)).apart (by omega)
        · exact below_setCells (by omega) _ _ _ _ (below_setCells (by omega) _ _ _ _ ((HW1.out.alloc (by omega) _).alloc (by simp; omega) _))
    case rest =>
      obtain ⟨g, rfl, rfl, hgz, IA, IF, I8, I16, hrow, hb⟩ := hcut
      obtain ⟨w2, hw2⟩ : ∃ x, x = wc := ⟨_, rfl⟩; subst hw2
      have k0 : w2.cell? ⟨w.heap.size, 0, none⟩ = some (.int .i64 (told 0)) := I8.cell 0 (by omega)
      have k1 : w2.cell? ⟨w.heap.size, 1, none⟩ = some (.int .i64 (told 1)) := I8.cell 1 (by omega)
      have k2 : w2.cell? ⟨w.heap.size, 2, none⟩ = some (.int .i64 (told 2)) := I8.cell 2 (by omega)
      have k3 : w2.cell? ⟨w.heap.size, 3, none⟩ = some (.int .i64 (told 3)) := I8.cell 3 (by omega)
      have k4 : w2.cell? ⟨w.heap.size, 4, none⟩ = some (.int .i64 (told 4)) := I8.cell 4 (by omega)
      have k5 : w2.cell? ⟨w.heap.size, 5, none⟩ = some (.int .i64 (told 5)) := I8.cell 5 (by omega)
      have k6 : w2.cell? ⟨w.heap.size, 6, none⟩ = some (.int .i64 (told 6)) := I8.cell 6 (by omega)
      have k7 : w2.cell? ⟨w.heap.size, 7, none⟩ = some (.int .i64 (told 7)) := I8.cell 7 (by omega)
      have l0 : w2.cell? ⟨w.heap.size + 1, 0, none⟩ = some (.int .i64 (cells 0)) := I16.cell 0 (by omega)
      have l1 : w2.cell? ⟨w.heap.size + 1, 1, none⟩ = some (.int .i64 (cells 1)) := I16.cell 1 (by omega)
      have l2 : w2.cell? ⟨w.heap.size + 1, 2, none⟩ = some (.int .i64 (cells 2)) := I16.cell 2 (by omega)
      have l3 : w2.cell? ⟨w.heap.size + 1, 3, none⟩ = some (.int .i64 (cells 3)) := I16.cell 3 (by omega)
      have l4 : w2.cell? ⟨w.heap.size + 1, 4, none⟩ = some (.int .i64 (cells 4)) := I16.cell 4 (by omega)
      have l5 : w2.cell? ⟨w.heap.size + 1, 5, none⟩ = some (.int .i64 (cells 5)) := I16.cell 5 (by omega)
      have l6 : w2.cell? ⟨w.heap.size + 1, 6, none⟩ = some (.int .i64 (cells 6)) := I16.cell 6 (by omega)
      have l7 : w2.cell? ⟨w.heap.size + 1, 7, none⟩ = some (.int .i64 (cells 7)) := I16.cell 7 (by omega)
      have l8 : w2.cell? ⟨w.heap.size + 1, 8, none⟩ = some (.int .i64 (cells 8)) := I16.cell 8 (by omega)
      have l9 : w2.cell? ⟨w.heap.size + 1, 9, none⟩ = some (.int .i64 (cells 9)) := I16.cell 9 (by omega)
      have l10 : w2.cell? ⟨w.heap.size + 1, 10, none⟩ = some (.int .i64 (cells 10)) := I16.cell 10 (by omega)
      have l11 : w2.cell? ⟨w.heap.size + 1, 11, none⟩ = some (.int .i64 (cells 11)) := I16.cell 11 (by omega)
      have l12 : w2.cell? ⟨w.heap.size + 1, 12, none⟩ = some (.int .i64 (cells 12)) := I16.cell 12 (by omega)
      have l13 : w2.cell? ⟨w.heap.size + 1, 13, none⟩ = some (.int .i64 (cells 13)) := I16.cell 13 (by omega)
      have l14 : w2.cell? ⟨w.heap.size + 1, 14, none⟩ = some (.int .i64 (cells 14)) := I16.cell 14 (by omega)
      have l15 : w2.cell? ⟨w.heap.size + 1, 15, none⟩ = some (.int .i64 (cells 15)) := I16.cell 15 (by omega)
      have zg : g + 1 < w2.heap.size := IF.lt (by omega)
      have HIA := Lib.hid IA
      have HIF := Lib.hid IF
      have HROW := Lib.hid hrow
      have HB2 := Lib.hid hb
      clear IA IF I8 I16 hrow hb
      go_upto_region 4 with fail
      go_cut [11, 12] (fun p11 q wx => ∃ g3 : Nat, p11 = .pointer (some ⟨g3, 0, none⟩) ∧ g + 1 < g3 ∧ Img wx g3 19 (fun j => ([.int .i64 0, .int .i64 0, .int .i64 0, .int .i64 0, .int .i64 0, .int .i64 0, .int .i64 0, .int .i64 0, .int .i64 0, .int .i64 0, .int .i64 0, .int .i64 0, .int .i64 0, .int .i64 0, .int .i64 0, .int .i64 0, .int .i64 0, .slice none 0 0, .int .i64 0] : List Value).getD j undef) ∧ Img wx g 19 (fun j => ([.int .i64 0, .int .i64 0, .int .i64 0, .int .i64 0, .int .i64 0, .int .i64 0, .int .i64 0, .int .i64 0, .int .i64 0, .int .i64 0, .int .i64 0, .int .i64 0, .int .i64 0, .int .i64 0, .int .i64 0, .int .i64 0, .int .i64 0, .slice none 0 0, .int .i64 0] : List Value).getD j undef) ∧ Img wx (g + 1) 2 (fun j => ([.int .i64 er, .int .i64 p] : List Value).getD j undef) ∧ ErrIs wx q er p ∧ Below w.heap.size w wx)
      case first =>
        as_aux_lemma =>
          go_wp2_with fail
          refine (HC2.out _ HB2.out).mono ?_
          rintro e w3 ⟨⟨v3, err, rfl, hR3⟩, hb3⟩
          have HIA3 := Lib.hid (HIA.out.later hb3 (by omega))
          have HIF3 := Lib.hid (HIF.out.later hb3 zg)
          have HB3 := Lib.hid (HB2.out.trans (hb3.mono HB2.out.size))
          have z3 : g + 1 < w3.heap.size := by have := hb3.size; omega
          have x3 : w.heap.size < w3.heap.size := by omega
          obtain ⟨hv3, hE, -⟩ := hR3
          have HV3 := Lib.hid hv3
          clear hv3
          have HERR := Lib.hid hE
          clear hE hb3
          go_wp2_with (with_reducible refine wpList_store_mid rfl 35 (.tmp 11) (.tmp 30) rfl w3.heap.size 0 #[.int .i64 0, .int .i64 0, .int .i64 0, .int .i64 0, .int .i64 0, .int .i64 0, .int .i64 0, .int .i64 0, .int .i64 0, .int .i64 0, .int .i64 0, .int .i64 0, .int .i64 0, .int .i64 0, .int .i64 0, .int .i64 0, .int .i64 0, .slice none 0 0, .int .i64 0] (by simp [go_sem]; done) (by simp [go_sem]; exact HV3.out) (there_new (by kernel_rfl)) size_ranz one_ranz ?_)
          go_meet
          go_light
          refine ⟨w3.heap.size, rfl, z3, ?_, ?_, ?_, ?_, ?_⟩
          · exact Img.put (vs := [.int .i64 0, .int .i64 0, .int .i64 0, .int .i64 0, .int .i64 0, .int .i64 0, .int .i64 0, .int .i64 0, .int .i64 0, .int .i64 0, .int .i64 0, .int .i64 0, .int .i64 0, .int .i64 0, .int .i64 0, .int .i64 0, .int .i64 0, .slice none 0 0, .int .i64 0]) (there_new (by kernel_rfl))
          · exact (HIA3.out.alloc _).apart (by omega)
          · exact (HIF3.out.alloc _).apart (by omega)
          · exact HERR.out.later (below_setCells (by omega) _ _ _ _ ((Below.refl _ _).alloc (Nat.le_refl _) _))
          · exact below_setCells (by omega) _ _ _ _ (HB3.out.alloc (by omega) _)
      case rest =>
        obtain ⟨g3, rfl, hg3, IC, IA, IF, hE, hb⟩ := hcut
        obtain ⟨wx, hwx⟩ : ∃ x, x = wc := ⟨_, rfl⟩; subst hwx
        have b0 : wx.cell? ⟨g + 1, 0, none⟩ = some (.int .i64 er) := IF.cell 0 (by omega)
        have b1 : wx.cell? ⟨g + 1, 1, none⟩ = some (.int .i64 p) := IF.cell 1 (by omega)
        have zx : g3 < wx.heap.size := IC.lt (by omega)
        have zx1 : g < wx.heap.size := IA.lt (by omega)
        have HIC := Lib.hid IC
        have HIA2 := Lib.hid IA
        have HBX := Lib.hid hb
        clear IC IA IF hb
        have HERR := Lib.hid hE
        obtain ⟨ty, x, hx⟩ := hE.iface HROW.out
        clear hE
        subst hx
        as_aux_lemma =>
          go_wp2_with fail
          refine (is_same _ er p wx HERR.out ((HBX.out.cell gz).trans HG.out)).mono ?_
          rintro e w4 ⟨rfl, hb4⟩
          have IA4 := HIA2.out.later hb4 zx1
          have IC4 := HIC.out.later hb4 zx
          have a0 : w4.cell? ⟨g, 0, none⟩ = some (.int .i64 0) := IA4.cell 0 (by omega)
          have a17 : w4.cell? ⟨g, 17, none⟩ = some (.slice none 0 0) := IA4.cell 17 (by omega)
          have a18 : w4.cell? ⟨g, 18, none⟩ = some (.int .i64 0) := IA4.cell 18 (by omega)
          have c0 : w4.cell? ⟨g3, 0, none⟩ = some (.int .i64 0) := IC4.cell 0 (by omega)
          have c17 : w4.cell? ⟨g3, 17, none⟩ = some (.slice none 0 0) := IC4.cell 17 (by omega)
          have c18 : w4.cell? ⟨g3, 18, none⟩ = some (.int .i64 0) := IC4.cell 18 (by omega)
          have HRGA := Lib.hid (IA4.range 1 16 (by omega) [.int .i64 0, .int .i64 0, .int .i64 0, .int .i64 0, .int .i64 0, .int .i64 0, .int .i64 0, .int .i64 0, .int .i64 0, .int .i64 0, .int .i64 0, .int .i64 0, .int .i64 0, .int .i64 0, .int .i64 0, .int .i64 0] rfl)
          have HRGC := Lib.hid (IC4.range 1 16 (by omega) [.int .i64 0, .int .i64 0, .int .i64 0, .int .i64 0, .int .i64 0, .int .i64 0, .int .i64 0, .int .i64 0, .int .i64 0, .int .i64 0, .int .i64 0, .int .i64 0, .int .i64 0, .int .i64 0, .int .i64 0, .int .i64 0] rfl)
          have HB4 := Lib.hid (HBX.out.trans (hb4.mono HBX.out.size))
          have HRA : Hid (RowOf w4 (.slice none 0 0) []) := ⟨0, World.ownsRow_nil _ _ _ _⟩
          have HRB : Hid (RowOf w4 (.slice none 0 0) []) := ⟨0, World.ownsRow_nil _ _ _ _⟩
          clear IA4 IC4 hb4
          as_aux_lemma =>
            have heq := fun w => equal_table 0 0 0 0 0 0 0 0 0 0 0 0 0 0 0 0 w
            go_wp2_with (first | (with_reducible refine wpList_load_on (by simp [go_sem]; done) 26 (.tmp 43) rfl g3 1 (by simp [go_sem]; done) [.int .i64 0, .int .i64 0, .int .i64 0, .int .i64 0, .int .i64 0, .int .i64 0, .int .i64 0, .int .i64 0, .int .i64 0, .int .i64 0, .int .i64 0, .int .i64 0, .int .i64 0, .int .i64 0, .int .i64 0, .int .i64 0] _ HRGC.out Tryd.underlying26 rfl (size_tab 0 0 0 0 0 0 0 0 0 0 0 0 0 0 0 0) ?_) | (with_reducible refine wpList_load_on (by simp [go_sem]; done) 26 (.tmp 45) rfl g 1 (by simp [go_sem]; done) [.int .i64 0, .int .i64 0, .int .i64 0, .int .i64 0, .int .i64 0, .int .i64 0, .int .i64 0, .int .i64 0, .int .i64 0, .int .i64 0, .int .i64 0, .int .i64 0, .int .i64 0, .int .i64 0, .int .i64 0, .int .i64 0] _ HRGA.out Tryd.underlying26 rfl (size_tab 0 0 0 0 0 0 0 0 0 0 0 0 0 0 0 0) ?_) | (go_at_call 9; refine (SameOut_any [] _ _ _ HRA.out HRB.out).mono ?_; rintro e w5 ⟨rfl, hb5⟩))
            go_ret
            refine ⟨?_, HB4.out.trans (hb5.mono HB4.out.size)⟩
            first | rfl | (simp; done)
  | inr x =>
    obtain ⟨M, num, st⟩ := x
    go_upto_region 3 with fail
    go_cut [9, 10] (fun p9 p10 wx => ∃ g : Nat, ∃ (og : Option Addr) (ocap : Nat), p9 = .pointer (some ⟨g, 0, none⟩) ∧ p10 = .pointer (some ⟨g + 1, 0, none⟩) ∧ w.heap.size + 1 < g ∧ Img wx g 19 (fun j => ([.int .i64 num, .int .i64 (M.cells 0), .int .i64 (M.cells 1), .int .i64 (M.cells 2), .int .i64 (M.cells 3), .int .i64 (M.cells 4), .int .i64 (M.cells 5), .int .i64 (M.cells 6), .int .i64 (M.cells 7), .int .i64 (M.cells 8), .int .i64 (M.cells 9), .int .i64 (M.cells 10), .int .i64 (M.cells 11), .int .i64 (M.cells 12), .int .i64 (M.cells 13), .int .i64 (M.cells 14), .int .i64 (M.cells 15), .slice og M.out.length ocap, .int .i64 st] : List Value).getD j undef) ∧ Img wx (g + 1) 2 (fun j => ([.int .i64 0, .int .i64 (-1)] : List Value).getD j undef) ∧ Img wx w.heap.size 8 (fun j => ([.int .i64 (told 0), .int .i64 (told 1), .int .i64 (told 2), .int .i64 (told 3), .int .i64 (told 4), .int .i64 (told 5), .int .i64 (told 6), .int .i64 (told 7)] : List Value).getD j undef) ∧ Img wx (w.heap.size + 1) 16 (fun j => ([.int .i64 (cells 0), .int .i64 (cells 1), .int .i64 (cells 2), .int .i64 (cells 3), .int .i64 (cells 4), .int .i64 (cells 5), .int .i64 (cells 6), .int .i64 (cells 7), .int .i64 (cells 8), .int .i64 (cells 9), .int .i64 (cells 10), .int .i64 (cells 11), .int .i64 (cells 12), .int .i64 (cells 13), .int .i64 (cells 14), .int .i64 (cells 15)] : List Value).getD j undef) ∧ RowOf wx (.slice og M.out.length ocap) M.out ∧ Below w.heap.size w wx)
    case first =>
      as_aux_lemma =>
        have I80 : Img (World.alloc (World.alloc w (.cells #[.int .i64 (told 0), .int .i64 (told 1), .int .i64 (told 2), .int .i64 (told 3), .int .i64 (told 4), .int .i64 (told 5), .int .i64 (told 6), .int .i64 (told 7)] 23)) (.cells #[.int .i64 (cells 0), .int .i64 (cells 1), .int .i64 (cells 2), .int .i64 (cells 3), .int .i64 (cells 4), .int .i64 (cells 5), .int .i64 (cells 6), .int .i64 (cells 7), .int .i64 (cells 8), .int .i64 (cells 9), .int .i64 (cells 10), .int .i64 (cells 11), .int .i64 (cells 12), .int .i64 (cells 13), .int .i64 (cells 14), .int .i64 (cells 15)] 26)) w.heap.size 8 (fun j => ([.int .i64 (told 0), .int .i64 (told 1), .int .i64 (told 2), .int .i64 (told 3), .int .i64 (told 4), .int .i64 (told 5), .int .i64 (told 6), .int .i64 (told 7)] : List Value).getD j undef) := Img.alloc (Img.mk' (heap_alloc_new w _) (by kernel_rfl)) _
        have I160 : Img (World.alloc (World.alloc w (.cells #[.int .i64 (told 0), .int .i64 (told 1), .int .i64 (told 2), .int .i64 (told 3), .int .i64 (told 4), .int .i64 (told 5), .int .i64 (told 6), .int .i64 (told 7)] 23)) (.cells #[.int .i64 (cells 0), .int .i64 (cells 1), .int .i64 (cells 2), .int .i64 (cells 3), .int .i64 (cells 4), .int .i64 (cells 5), .int .i64 (cells 6), .int .i64 (cells 7), .int .i64 (cells 8), .int .i64 (cells 9), .int .i64 (cells 10), .int .i64 (cells 11), .int .i64 (cells 12), .int .i64 (cells 13), .int .i64 (cells 14), .int .i64 (cells 15)] 26)) (w.heap.size + 1) 16 (fun j => ([.int .i64 (cells 0), .int .i64 (cells 1), .int .i64 (cells 2), .int .i64 (cells 3), .int .i64 (cells 4), .int .i64 (cells 5), .int .i64 (cells 6), .int .i64 (cells 7), .int .i64 (cells 8), .int .i64 (cells 9), .int .i64 (cells 10), .int .i64 (cells 11), .int .i64 (cells 12), .int .i64 (cells 13), .int .i64 (cells 14), .int .i64 (cells 15)] : List Value).getD j undef) := Img.mk' (by simpa using heap_alloc_new (World.alloc w _) _) (by kernel_rfl)
        have H80 := Lib.hid I80
        have H160 := Lib.hid I160
        clear I80 I160
        go_wp2_with fail
        refine (HC1.out _ (by repeat' (first | with_reducible exact HW0.out | with_reducible refine Below.alloc ?_ ?_ _ | (simp; done) | (simp; omega) | omega))).mono ?_
        rintro e w1 ⟨⟨v, f, rfl, hR⟩, hb⟩
        have z10 : w.heap.size + 1 < w1.heap.size := by have := hb.size; simp at this; omega
        have HW1 := Lib.hid (show Below w.heap.size w w1 from Below.trans (by repeat' (first | with_reducible exact HW0.out | with_reducible refine Below.alloc ?_ ?_ _ | (simp; done) | (simp; omega) | omega)) (hb.mono (by first | (simp; done) | (simp; omega) | omega)))
        have H81 := Lib.hid (H80.out.later hb (by simp; omega))
        have H161 := Lib.hid (H160.out.later hb (by simp))
        clear hb H80 H160
        obtain ⟨out, hv, hf, B0, hrow⟩ := hR
        obtain ⟨og, ocap, rfl⟩ := own_slice' hrow
        have HV := Lib.hid hv
        have HFV := Lib.hid hf
        clear hv hf
        have hrow1 : RowOf w1 (.slice og M.out.length ocap) M.out := ⟨B0, hrow⟩
        have HROW := Lib.hid hrow1
        clear hrow hrow1
        go_wp2_with (first | (with_reducible refine wpList_store_mid rfl 29 (.tmp 9) (.tmp 22) rfl w1.heap.size 0 #[.int .i64 num, .int .i64 (M.cells 0), .int .i64 (M.cells 1), .int .i64 (M.cells 2), .int .i64 (M.cells 3), .int .i64 (M.cells 4), .int .i64 (M.cells 5), .int .i64 (M.cells 6), .int .i64 (M.cells 7), .int .i64 (M.cells 8), .int .i64 (M.cells 9), .int .i64 (M.cells 10), .int .i64 (M.cells 11), .int .i64 (M.cells 12), .int .i64 (M.cells 13), .int .i64 (M.cells 14), .int .i64 (M.cells 15), .slice og M.out.length ocap, .int .i64 st] (by simp [go_sem]; done) (by simp [go_sem]; exact HV.out) (World.there_alloc (there_new (by kernel_rfl)) _) (size_rranv _ _ _ _ _ _ _ _ _ _ _ _ _ _ _ _ _ _ _ _ _) (one_ran _ _ _ _ _ _ _ _ _ _ _ _ _ _ _ _ _ _ _ _ _) ?_) | (with_reducible refine wpList_store_mid rfl 32 (.tmp 10) (.tmp 23) rfl (w1.heap.size + 1) 0 #[.int .i64 0, .int .i64 (-1)] (by simp [go_sem]; done) (by simp [go_sem]; exact HFV.out) (World.there_setCells (there_new2 (by kernel_rfl)) _ _ _) (size_two _ _) (one_two _ _) ?_))
        go_meet
        go_light
        refine ⟨w1.heap.size, og, ocap, rfl, rfl, z10, ?_, ?_, ?_, ?_, ?_, ?_⟩
        · exact (Img.put (vs := [.int .i64 num, .int .i64 (M.cells 0), .int .i64 (M.cells 1), .int .i64 (M.cells 2), .int .i64 (M.cells 3), .int .i64 (M.cells 4), .int .i64 (M.cells 5), .int .i64 (M.cells 6), .int .i64 (M.cells 7), .int .i64 (M.cells 8), .int .i64 (M.cells 9), .int .i64 (M.cells 10), .int .i64 (M.cells 11), .int .i64 (M.cells 12), .int .i64 (M.cells 13), .int .i64 (M.cells 14), .int .i64 (M.cells 15), .slice og M.out.length ocap, .int .i64 st]) (World.there_alloc (there_new (by kernel_rfl)) _)).apart (by omega)
        · exact Img.put (vs := [.int .i64 0, .int .i64 (-1)]) (World.there_setCells (there_new2 (by kernel_rfl)) _ _ _)
        · exact (((H81.out.alloc _).alloc _).apart (by omega)).apart (by omega)
        · exact (((H161.out.alloc _).alloc _).apart (by omega)).apart (by omega)
        · exact HROW.out.later (below_setCells (by omega) _ _ _ _ (below_setCells (by omega) _ _ _ _ (((Below.refl _ _).alloc (Nat.le_refl _) _).alloc (by simp) _)))
        · exact below_setCells (by omega) _ _ _ _ (below_setCells (by omega) _ _ _ _ ((HW1.out.alloc (by omega) _).alloc (by simp; omega) _))
    case rest =>
      obtain ⟨g, og, ocap, rfl, rfl, hgz, IA, IF, I8, I16, hrow, hb⟩ := hcut
      obtain ⟨w2, hw2⟩ : ∃ x, x = wc := ⟨_, rfl⟩; subst hw2
      have k0 : w2.cell? ⟨w.heap.size, 0, none⟩ = some (.int .i64 (told 0)) := I8.cell 0 (by omega)
      have k1 : w2.cell? ⟨w.heap.size, 1, none⟩ = some (.int .i64 (told 1)) := I8.cell 1 (by omega)
      have k2 : w2.cell? ⟨w.heap.size, 2, none⟩ = some (.int .i64 (told 2)) := I8.cell 2 (by omega)
      have k3 : w2.cell? ⟨w.heap.size, 3, none⟩ = some (.int .i64 (told 3)) := I8.cell 3 (by omega)
      have k4 : w2.cell? ⟨w.heap.size, 4, none⟩ = some (.int .i64 (told 4)) := I8.cell 4 (by omega)
      have k5 : w2.cell? ⟨w.heap.size, 5, none⟩ = some (.int .i64 (told 5)) := I8.cell 5 (by omega)
      have k6 : w2.cell? ⟨w.heap.size, 6, none⟩ = some (.int .i64 (told 6)) := I8.cell 6 (by omega)
      have k7 : w2.cell? ⟨w.heap.size, 7, none⟩ = some (.int .i64 (told 7)) := I8.cell 7 (by omega)
      have l0 : w2.cell? ⟨w.heap.size + 1, 0, none⟩ = some (.int .i64 (cells 0)) := I16.cell 0 (by omega)
      have l1 : w2.cell? ⟨w.heap.size + 1, 1, none⟩ = some (.int .i64 (cells 1)) := I16.cell 1 (by omega)
      have l2 : w2.cell? ⟨w.heap.size + 1, 2, none⟩ = some (.int .i64 (cells 2)) := I16.cell 2 (by omega)
      have l3 : w2.cell? ⟨w.heap.size + 1, 3, none⟩ = some (.int .i64 (cells 3)) := I16.cell 3 (by omega)
      have l4 : w2.cell? ⟨w.heap.size + 1, 4, none⟩ = some (.int .i64 (cells 4)) := I16.cell 4 (by omega)
      have l5 : w2.cell? ⟨w.heap.size + 1, 5, none⟩ = some (.int .i64 (cells 5)) := I16.cell 5 (by omega)
      have l6 : w2.cell? ⟨w.heap.size + 1, 6, none⟩ = some (.int .i64 (cells 6)) := I16.cell 6 (by omega)
      have l7 : w2.cell? ⟨w.heap.size + 1, 7, none⟩ = some (.int .i64 (cells 7)) := I16.cell 7 (by omega)
      have l8 : w2.cell? ⟨w.heap.size + 1, 8, none⟩ = some (.int .i64 (cells 8)) := I16.cell 8 (by omega)
      have l9 : w2.cell? ⟨w.heap.size + 1, 9, none⟩ = some (.int .i64 (cells 9)) := I16.cell 9 (by omega)
      have l10 : w2.cell? ⟨w.heap.size + 1, 10, none⟩ = some (.int .i64 (cells 10)) := I16.cell 10 (by omega)
      have l11 : w2.cell? ⟨w.heap.size + 1, 11, none⟩ = some (.int .i64 (cells 11)) := I16.cell 11 (by omega)
      have l12 : w2.cell? ⟨w.heap.size + 1, 12, none⟩ = some (.int .i64 (cells 12)) := I16.cell 12 (by omega)
      have l13 : w2.cell? ⟨w.heap.size + 1, 13, none⟩ = some (.int .i64 (cells 13)) := I16.cell 13 (by omega)
      have l14 : w2.cell? ⟨w.heap.size + 1, 14, none⟩ = some (.int .i64 (cells 14)) := I16.cell 14 (by omega)
      have l15 : w2.cell? ⟨w.heap.size + 1, 15, none⟩ = some (.int .i64 (cells 15)) := I16.cell 15 (by omega)
      have zg : g + 1 < w2.heap.size := IF.lt (by omega)
      have HIA := Lib.hid IA
      have HIF := Lib.hid IF
      have HROW := Lib.hid hrow
      have HB2 := Lib.hid hb
      clear IA IF I8 I16 hrow hb
      go_upto_region 4 with fail
      go_cut [11, 12] (fun p11 q wx => ∃ g3 : Nat, ∃ (og3 : Option Addr) (ocap3 : Nat), p11 = .pointer (some ⟨g3, 0, none⟩) ∧ g + 1 < g3 ∧ Img wx g3 19 (fun j => ([.int .i64 num, .int .i64 (M.cells 0), .int .i64 (M.cells 1), .int .i64 (M.cells 2), .int .i64 (M.cells 3), .int .i64 (M.cells 4), .int .i64 (M.cells 5), .int .i64 (M.cells 6), .int .i64 (M.cells 7), .int .i64 (M.cells 8), .int .i64 (M.cells 9), .int .i64 (M.cells 10), .int .i64 (M.cells 11), .int .i64 (M.cells 12), .int .i64 (M.cells 13), .int .i64 (M.cells 14), .int .i64 (M.cells 15), .slice og3 M.out.length ocap3, .int .i64 st] : List Value).getD j undef) ∧ Img wx g 19 (fun j => ([.int .i64 num, .int .i64 (M.cells 0), .int .i64 (M.cells 1), .int .i64 (M.cells 2), .int .i64 (M.cells 3), .int .i64 (M.cells 4), .int .i64 (M.cells 5), .int .i64 (M.cells 6), .int .i64 (M.cells 7), .int .i64 (M.cells 8), .int .i64 (M.cells 9), .int .i64 (M.cells 10), .int .i64 (M.cells 11), .int .i64 (M.cells 12), .int .i64 (M.cells 13), .int .i64 (M.cells 14), .int .i64 (M.cells 15), .slice og M.out.length ocap, .int .i64 st] : List Value).getD j undef) ∧ Img wx (g + 1) 2 (fun j => ([.int .i64 0, .int .i64 (-1)] : List Value).getD j undef) ∧ RowOf wx (.slice og M.out.length ocap) M.out ∧ RowOf wx (.slice og3 M.out.length ocap3) M.out ∧ q = .nilIface ∧ Below w.heap.size w wx)
      case first =>
        as_aux_lemma =>
          go_wp2_with fail
          refine (HC2.out _ HB2.out).mono ?_
          rintro e w3 ⟨⟨v3, err, rfl, hR3⟩, hb3⟩
          have HIA3 := Lib.hid (HIA.out.later hb3 (by omega))
          have HIF3 := Lib.hid (HIF.out.later hb3 zg)
          have HB3 := Lib.hid (HB2.out.trans (hb3.mono HB2.out.size))
          have z3 : g + 1 < w3.heap.size := by have := hb3.size; omega
          have x3 : w.heap.size < w3.heap.size := by omega
          obtain ⟨out3, hv3, rfl, B3, hrow3⟩ := hR3
          obtain ⟨og3, ocap3, rfl⟩ := own_slice' hrow3
          have HV3 := Lib.hid hv3
          clear hv3
          have hrow3' : RowOf w3 (.slice og3 M.out.length ocap3) M.out := ⟨B3, hrow3⟩
          have HROW3 := Lib.hid hrow3'
          have HROW1 := Lib.hid (HROW.out.later hb3)
          clear hrow3 hrow3' hb3
          go_wp2_with (with_reducible refine wpList_store_mid rfl 35 (.tmp 11) (.tmp 30) rfl w3.heap.size 0 #[.int .i64 num, .int .i64 (M.cells 0), .int .i64 (M.cells 1), .int .i64 (M.cells 2), .int .i64 (M.cells 3), .int .i64 (M.cells 4), .int .i64 (M.cells 5), .int .i64 (M.cells 6), .int .i64 (M.cells 7), .int .i64 (M.cells 8), .int .i64 (M.cells 9), .int .i64 (M.cells 10), .int .i64 (M.cells 11), .int .i64 (M.cells 12), .int .i64 (M.cells 13), .int .i64 (M.cells 14), .int .i64 (M.cells 15), .slice og3 M.out.length ocap3, .int .i64 st] (by simp [go_sem]; done) (by simp [go_sem]; exact HV3.out) (there_new (by kernel_rfl)) (size_ranv _ _ _ _ _ _ _ _ _ _ _ _ _ _ _ _ _ _ _ _ _) (one_ran _ _ _ _ _ _ _ _ _ _ _ _ _ _ _ _ _ _ _ _ _) ?_)
          go_meet
          go_light
          refine ⟨w3.heap.size, og3, ocap3, rfl, z3, ?_, ?_, ?_, ?_, ?_, rfl, ?_⟩
          · exact Img.put (vs := [.int .i64 num, .int .i64 (M.cells 0), .int .i64 (M.cells 1), .int .i64 (M.cells 2), .int .i64 (M.cells 3), .int .i64 (M.cells 4), .int .i64 (M.cells 5), .int .i64 (M.cells 6), .int .i64 (M.cells 7), .int .i64 (M.cells 8), .int .i64 (M.cells 9), .int .i64 (M.cells 10), .int .i64 (M.cells 11), .int .i64 (M.cells 12), .int .i64 (M.cells 13), .int .i64 (M.cells 14), .int .i64 (M.cells 15), .slice og3 M.out.length ocap3, .int .i64 st]) (there_new (by kernel_rfl))
          · exact (HIA3.out.alloc _).apart (by omega)
          · exact (HIF3.out.alloc _).apart (by omega)
          · exact HROW1.out.later (below_setCells (by omega) _ _ _ _ ((Below.refl _ _).alloc (Nat.le_refl _) _))
          · exact HROW3.out.later (below_setCells (by omega) _ _ _ _ ((Below.refl _ _).alloc (Nat.le_refl _) _))
          · exact below_setCells (by omega) _ _ _ _ (HB3.out.alloc (by omega) _)
      case rest =>
        obtain ⟨g3, og3, ocap3, rfl, hg3, IC, IA, IF, hr1, hr3, rfl, hb⟩ := hcut
        obtain ⟨wx, hwx⟩ : ∃ x, x = wc := ⟨_, rfl⟩; subst hwx
        have b0 : wx.cell? ⟨g + 1, 0, none⟩ = some (.int .i64 0) := IF.cell 0 (by omega)
        have b1 : wx.cell? ⟨g + 1, 1, none⟩ = some (.int .i64 (-1)) := IF.cell 1 (by omega)
        have zx : g3 < wx.heap.size := IC.lt (by omega)
        have zx1 : g < wx.heap.size := IA.lt (by omega)
        have HIC := Lib.hid IC
        have HIA2 := Lib.hid IA
        have HBX := Lib.hid hb
        clear IC IA IF hb
        have HR1 := Lib.hid hr1
        have HR3 := Lib.hid hr3
        have HERR : Hid (ErrIs wx .nilIface 0 (-1)) := .inl ⟨rfl, rfl, rfl⟩
        clear hr1 hr3
        as_aux_lemma =>
          go_wp2_with fail
          refine (is_same _ 0 (-1) wx HERR.out ((HBX.out.cell gz).trans HG.out)).mono ?_
          rintro e w4 ⟨rfl, hb4⟩
          have IA4 := HIA2.out.later hb4 zx1
          have IC4 := HIC.out.later hb4 zx
          have a0 : w4.cell? ⟨g, 0, none⟩ = some (.int .i64 num) := IA4.cell 0 (by omega)
          have a17 : w4.cell? ⟨g, 17, none⟩ = some (.slice og M.out.length ocap) := IA4.cell 17 (by omega)
          have a18 : w4.cell? ⟨g, 18, none⟩ = some (.int .i64 st) := IA4.cell 18 (by omega)
          have c0 : w4.cell? ⟨g3, 0, none⟩ = some (.int .i64 num) := IC4.cell 0 (by omega)
          have c17 : w4.cell? ⟨g3, 17, none⟩ = some (.slice og3 M.out.length ocap3) := IC4.cell 17 (by omega)
          have c18 : w4.cell? ⟨g3, 18, none⟩ = some (.int .i64 st) := IC4.cell 18 (by omega)
          have HRGA := Lib.hid (IA4.range 1 16 (by omega) [.int .i64 (M.cells 0), .int .i64 (M.cells 1), .int .i64 (M.cells 2), .int .i64 (M.cells 3), .int .i64 (M.cells 4), .int .i64 (M.cells 5), .int .i64 (M.cells 6), .int .i64 (M.cells 7), .int .i64 (M.cells 8), .int .i64 (M.cells 9), .int .i64 (M.cells 10), .int .i64 (M.cells 11), .int .i64 (M.cells 12), .int .i64 (M.cells 13), .int .i64 (M.cells 14), .int .i64 (M.cells 15)] rfl)
          have HRGC := Lib.hid (IC4.range 1 16 (by omega) [.int .i64 (M.cells 0), .int .i64 (M.cells 1), .int .i64 (M.cells 2), .int .i64 (M.cells 3), .int .i64 (M.cells 4), .int .i64 (M.cells 5), .int .i64 (M.cells 6), .int .i64 (M.cells 7), .int .i64 (M.cells 8), .int .i64 (M.cells 9), .int .i64 (M.cells 10), .int .i64 (M.cells 11), .int .i64 (M.cells 12), .int .i64 (M.cells 13), .int .i64 (M.cells 14), .int .i64 (M.cells 15)] rfl)
          have HB4 := Lib.hid (HBX.out.trans (hb4.mono HBX.out.size))
          have HRA := Lib.hid (HR3.out.later hb4)
          have HRB := Lib.hid (HR1.out.later hb4)
          clear IA4 IC4 hb4
          as_aux_lemma =>
            have heq := fun w => equal_table (M.cells 0) (M.cells 1) (M.cells 2) (M.cells 3) (M.cells 4) (M.cells 5) (M.cells 6) (M.cells 7) (M.cells 8) (M.cells 9) (M.cells 10) (M.cells 11) (M.cells 12) (M.cells 13) (M.cells 14) (M.cells 15) w
            go_wp2_with (first | (with_reducible refine wpList_load_on (by simp [go_sem]; done) 26 (.tmp 43) rfl g3 1 (by simp [go_sem]; done) [.int .i64 (M.cells 0), .int .i64 (M.cells 1), .int .i64 (M.cells 2), .int .i64 (M.cells 3), .int .i64 (M.cells 4), .int .i64 (M.cells 5), .int .i64 (M.cells 6), .int .i64 (M.cells 7), .int .i64 (M.cells 8), .int .i64 (M.cells 9), .int .i64 (M.cells 10), .int .i64 (M.cells 11), .int .i64 (M.cells 12), .int .i64 (M.cells 13), .int .i64 (M.cells 14), .int .i64 (M.cells 15)] _ HRGC.out Tryd.underlying26 rfl (size_tab (M.cells 0) (M.cells 1) (M.cells 2) (M.cells 3) (M.cells 4) (M.cells 5) (M.cells 6) (M.cells 7) (M.cells 8) (M.cells 9) (M.cells 10) (M.cells 11) (M.cells 12) (M.cells 13) (M.cells 14) (M.cells 15)) ?_) | (with_reducible refine wpList_load_on (by simp [go_sem]; done) 26 (.tmp 45) rfl g 1 (by simp [go_sem]; done) [.int .i64 (M.cells 0), .int .i64 (M.cells 1), .int .i64 (M.cells 2), .int .i64 (M.cells 3), .int .i64 (M.cells 4), .int .i64 (M.cells 5), .int .i64 (M.cells 6), .int .i64 (M.cells 7), .int .i64 (M.cells 8), .int .i64 (M.cells 9), .int .i64 (M.cells 10), .int .i64 (M.cells 11), .int .i64 (M.cells 12), .int .i64 (M.cells 13), .int .i64 (M.cells 14), .int .i64 (M.cells 15)] _ HRGA.out Tryd.underlying26 rfl (size_tab (M.cells 0) (M.cells 1) (M.cells 2) (M.cells 3) (M.cells 4) (M.cells 5) (M.cells 6) (M.cells 7) (M.cells 8) (M.cells 9) (M.cells 10) (M.cells 11) (M.cells 12) (M.cells 13) (M.cells 14) (M.cells 15)) ?_) | (go_at_call 9; refine (SameOut_any M.out _ _ _ HRA.out HRB.out).mono ?_; rintro e w5 ⟨rfl, hb5⟩))
            go_ret
            refine ⟨?_, HB4.out.trans (hb5.mono HB4.out.size)⟩
            first | rfl | (simp; done)
end Go.Proofs.YtfpoicdfkjbknaaDoor.W
