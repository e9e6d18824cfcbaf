/- The reference's box as a block of 109 cells: 27 values, 8 words that are told, a Ran (number, 16 words of cells, what is given out, steps), the time. No conditions. -/
import Derived.Test.YtfpoicdfkjbknaaDoorPureRun
namespace Go.Proofs.YtfpoicdfkjbknaaDoor.P
open Go.RowKit
set_option linter.unusedSimpArgs false
set_option linter.unusedVariables false

/-- a kind's letter -/
def kl (k : Int) : Int := if k = 1 then 110 else if k = 2 then 116 else if k = 3 then 102 else if k = 4 then 99 else 0
/-- a value's three cells -/
def rcell (v : Val) (k : Nat) : Value := if k = 0 then .int .u8 (kl v.kind) else .int .i64 (if k = 1 then v.n else v.cell)
theorem rcell_0 (v : Val) : rcell v 0 = .int .u8 (kl v.kind) := rfl
theorem rcell_1 (v : Val) : rcell v 1 = .int .i64 v.n := rfl
theorem rcell_2 (v : Val) : rcell v 2 = .int .i64 v.cell := rfl
/-- registers 0 to 10, then slots -/
def Mach.at_ (M : Mach) (r : Nat) : Val := if r < 11 then M.regs r else M.slots (r - 11)
def bimg (told : Nat → Int) (time num st : Int) (out : Value) (M : Mach) : Nat → Value := fun j =>
  if j < 81 then rcell (M.at_ (j / 3)) (j % 3) else if j < 89 then .int .i64 (told (j - 81)) else if j = 89 then .int .i64 num
  else if j < 106 then .int .i64 (M.cells (j - 90)) else if j = 106 then out else if j = 107 then .int .i64 st else .int .i64 time

variable {told : Nat → Int} {time num st : Int} {out : Value} {M : Mach}
theorem bimg_at {r k j : Nat} (hr : r < 27) (hk : k < 3) (hj : j = r * 3 + k) : bimg told time num st out M j = rcell (M.at_ r) k := by
  subst hj; unfold bimg
  rw [if_pos (by omega), show (r * 3 + k) / 3 = r by omega, show (r * 3 + k) % 3 = k by omega]
theorem at_reg {r : Nat} (hr : r < 11) : M.at_ r = M.regs r := if_pos hr
theorem at_slot (r : Nat) : M.at_ (11 + r) = M.slots r := by unfold Mach.at_; rw [if_neg (by omega), show 11 + r - 11 = r by omega]
theorem bimg_told {r j : Nat} (hr : r < 8) (hj : j = 81 + r) : bimg told time num st out M j = .int .i64 (told r) := by
  subst hj; unfold bimg
  rw [if_neg (by omega), if_pos (by omega), show 81 + r - 81 = r by omega]
theorem bimg_cells {r j : Nat} (hr : r < 16) (hj : j = 90 + r) : bimg told time num st out M j = .int .i64 (M.cells r) := by
  subst hj; unfold bimg
  rw [if_neg (by omega), if_neg (by omega), if_neg (by omega), if_pos (by omega), show 90 + r - 90 = r by omega]

theorem Img.bset {w : World} {b : Nat} (h : Img w b 109 (bimg told time num st out M)) {M' : Mach} {r i0 i1 i2 : Nat} (hr : r < 27) (v : Val) (e0 : i0 = r * 3) (e1 : i1 = r * 3 + 1) (e2 : i2 = r * 3 + 2)
    (hv : M'.at_ r = v) (ho : ∀ i, i < 27 → i ≠ r → M'.at_ i = M.at_ i) (hc : M'.cells = M.cells) :
    Img (((w.setCell ⟨b, i0, none⟩ (.int .u8 (kl v.kind))).setCell ⟨b, i1, none⟩ (.int .i64 v.n)).setCell ⟨b, i2, none⟩ (.int .i64 v.cell)) b 109 (bimg told time num st out M') := by
  subst e0 e1 e2
  refine (((h.set (j := r * 3) (by omega) _).set (j := r * 3 + 1) (by omega) _).set (j := r * 3 + 2) (by omega) _).congr fun j hj => ?_
  by_cases h2 : j = r * 3 + 2
  · rw [bimg_at hr (by omega : 2 < 3) h2, h2, upd_same, hv]; rfl
  by_cases h1 : j = r * 3 + 1
  · rw [bimg_at hr (by omega : 1 < 3) h1, upd_other h2, h1, upd_same, hv]; rfl
  by_cases h0 : j = r * 3
  · rw [bimg_at hr (by omega : 0 < 3) (by omega), upd_other h2, upd_other h1, h0, upd_same, hv]; rfl
  rw [upd_other h2, upd_other h1, upd_other h0]
  unfold bimg
  rw [hc]
  by_cases hl : j < 81
  · rw [if_pos hl, if_pos hl, ho (j / 3) (by omega) (by omega)]
  · rw [if_neg hl, if_neg hl]
/-- a register of the box is stored -/
theorem Img.bsetReg {w : World} {b : Nat} (h : Img w b 109 (bimg told time num st out M)) {r i0 i1 i2 : Nat} (hr : r < 11) (v : Val) (e0 : i0 = r * 3) (e1 : i1 = r * 3 + 1) (e2 : i2 = r * 3 + 2) :
    Img (((w.setCell ⟨b, i0, none⟩ (.int .u8 (kl v.kind))).setCell ⟨b, i1, none⟩ (.int .i64 v.n)).setCell ⟨b, i2, none⟩ (.int .i64 v.cell)) b 109 (bimg told time num st out { M with regs := upd M.regs r v }) := by
  refine h.bset (M' := { M with regs := upd M.regs r v }) (by omega) v e0 e1 e2 ?_ (fun i _ hi => ?_) rfl
  · unfold Mach.at_; rw [if_pos hr]; exact upd_same _ _ _
  · unfold Mach.at_
    split
    · exact upd_other hi
    · rfl
theorem Img.bsetSlot {w : World} {b : Nat} (h : Img w b 109 (bimg told time num st out M)) {r i0 i1 i2 : Nat} (hr : r < 16) (v : Val) (e0 : i0 = (11 + r) * 3) (e1 : i1 = (11 + r) * 3 + 1) (e2 : i2 = (11 + r) * 3 + 2) :
    Img (((w.setCell ⟨b, i0, none⟩ (.int .u8 (kl v.kind))).setCell ⟨b, i1, none⟩ (.int .i64 v.n)).setCell ⟨b, i2, none⟩ (.int .i64 v.cell)) b 109 (bimg told time num st out { M with slots := upd M.slots r v }) := by
  refine h.bset (M' := { M with slots := upd M.slots r v }) (by omega) v e0 e1 e2 ?_ (fun i _ hi => ?_) rfl
  · unfold Mach.at_; rw [if_neg (by omega), show 11 + r - 11 = r by omega]; exact upd_same _ _ _
  · unfold Mach.at_
    split
    · rfl
    · exact upd_other (by omega)
/-- a register's number alone is stored -/
theorem Img.bsetRegN {w : World} {b : Nat} (h : Img w b 109 (bimg told time num st out M)) {r i : Nat} (hr : r < 11) (n : Int) (e : i = r * 3 + 1) :
    Img (w.setCell ⟨b, i, none⟩ (.int .i64 n)) b 109 (bimg told time num st out { M with regs := upd M.regs r ⟨(M.regs r).kind, n, (M.regs r).cell⟩ }) := by
  subst e
  refine (h.set (j := r * 3 + 1) (by omega) _).congr fun j hj => ?_
  have hv : ({ M with regs := upd M.regs r ⟨(M.regs r).kind, n, (M.regs r).cell⟩ } : Mach).at_ r = ⟨(M.regs r).kind, n, (M.regs r).cell⟩ := by unfold Mach.at_; rw [if_pos hr]; exact upd_same _ _ _
  by_cases h1 : j = r * 3 + 1
  · rw [bimg_at (by omega : r < 27) (by omega : 1 < 3) h1, h1, upd_same, hv]; rfl
  rw [upd_other h1]
  by_cases h2 : j = r * 3 + 2
  · rw [bimg_at (by omega : r < 27) (by omega : 2 < 3) h2, bimg_at (by omega : r < 27) (by omega : 2 < 3) h2, hv, at_reg hr]; rfl
  by_cases h0 : j = r * 3
  · rw [bimg_at (by omega : r < 27) (by omega : 0 < 3) (by omega), bimg_at (by omega : r < 27) (by omega : 0 < 3) (by omega), hv, at_reg hr]; rfl
  unfold bimg
  simp only
  by_cases hl : j < 81
  · rw [if_pos hl, if_pos hl]
    congr 1
    unfold Mach.at_
    split
    · exact (upd_other (by omega)).symm
    · rfl
  · rw [if_neg hl, if_neg hl]
theorem Img.bsetOut {w : World} {b : Nat} (h : Img w b 109 (bimg told time num st out M)) (v : Value) (l : List Int) : Img (w.setCell ⟨b, 106, none⟩ v) b 109 (bimg told time num st v { M with out := l }) := by
  refine (h.set (j := 106) (by omega) v).congr fun j hj => ?_
  by_cases h0 : j = 106
  · subst h0; rw [upd_same]; rfl
  rw [upd_other h0]
  unfold bimg Mach.at_
  simp only
  repeat' split
  all_goals first | rfl | omega
theorem Img.bsetNum {w : World} {b : Nat} (h : Img w b 109 (bimg told time num st out M)) (n : Int) : Img (w.setCell ⟨b, 89, none⟩ (.int .i64 n)) b 109 (bimg told time n st out M) := by
  refine (h.set (j := 89) (by omega) _).congr fun j hj => ?_
  by_cases h0 : j = 89
  · subst h0; rw [upd_same]; rfl
  rw [upd_other h0]
  unfold bimg
  repeat' split
  all_goals first | rfl | omega
theorem Img.bsetSt {w : World} {b : Nat} (h : Img w b 109 (bimg told time num st out M)) (n : Int) : Img (w.setCell ⟨b, 107, none⟩ (.int .i64 n)) b 109 (bimg told time num n out M) := by
  refine (h.set (j := 107) (by omega) _).congr fun j hj => ?_
  by_cases h0 : j = 107
  · subst h0; rw [upd_same]; rfl
  rw [upd_other h0]
  unfold bimg
  repeat' split
  all_goals first | rfl | omega
theorem Img.bsetCell {w : World} {b : Nat} (h : Img w b 109 (bimg told time num st out M)) {r : Nat} (hr : r < 16) (n : Int) : Img (w.setCell ⟨b, 90 + r, none⟩ (.int .i64 n)) b 109 (bimg told time num st out { M with cells := upd M.cells r n }) := by
  refine (h.set (j := 90 + r) (by omega) _).congr fun j hj => ?_
  by_cases h0 : j = 90 + r
  · rw [bimg_cells hr h0, h0, upd_same]; simp only; rw [upd_same]
  rw [upd_other h0]
  unfold bimg Mach.at_
  simp only
  repeat' split
  all_goals first | rfl | omega | (rw [upd_other (by omega)])
end Go.Proofs.YtfpoicdfkjbknaaDoor.P
