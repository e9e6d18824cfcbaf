/-
  No cell of these rows narrows 'for every input' (looked for: loops, veiled, ifaces, maps, wideKeys, modest, calm, conditions, laid).
  DERIVED. THE GIVEN ROWS OF THIS SEAT. 3 by the template 'for every input the law returns true; each argument reads behind the call as it read before'; 0 by the template 'total and deterministic' (their statements: YtfmcapmaebfppaaTotals.lean).
  GIVEN WITH THE SEED: the statements are not yours to turn. If you find one false, say at which input.
  Laid BY PROGRAM, IN A SANDBOX (cutbox-rows.mjs): the forced cells as the released guide's own fill.sh prints them over the translation bbeb3603440404eb… (all of the seat's roots in one cut). By AI agents, Wed Nov 11 2026. No macro, syntax, notation, axiom, sorry.
-/
import Derived.Test.YtfmcapmaebfppaaChecked
import GoSem.Claim
import GoSem.ClaimJoined
import GoSem.ClaimMapViews
import Derived.JoinedTies
import Derived.KernelRfl
namespace Go.Proofs.Ytfmcapmaebfppaa
/- THE CELL 'sum', in the pinned program and in every row, IS THE sha256 OF THE DUMP (.gsa) THAT YtfmcapmaebfppaaProg.lean LOADS. Nothing in Lean hashes anything: it is a label: what it is worth is what the hold of that sum in a sandbox is worth. -/
noncomputable def Try.pinned : Pinned := { name := "ytfmcapmaebfppaa", sum := "bbeb3603440404ebda8ebb91c691be8365ee200fe7ec207985efb7e1c442c4f1", checked := Try.checked }
namespace Rows
def none {H : Type} : Left H := { results := [], args := [] }

/-- 'gatehousekeep.OpEven': WHATEVER THE INPUT: true; the input reads as it did. -/
def opEvenSpec : ChangeSpec := { name := "opEven", fn := fun _ => fun
  | [d1, d2] => { results := [.lit (.bool true)], args := [d1, d2] }
  | _ => none }
def opEvenRow : OpenClaim := { program := "ytfmcapmaebfppaa", sum := "bbeb3603440404ebda8ebb91c691be8365ee200fe7ec207985efb7e1c442c4f1", func := "gatehouse/gatehousekeep.OpEven", spec := "opEven", unfollowed := true, recurses := true, apart := false }
def OpEvenSaid : Prop := opEvenRow.holds Try.pinned (OpenSpec.ofChange opEvenSpec)

/-- ITS FALSE NEIGHBOUR: 'it returns false'. Refute it at one input. -/
def opEvenWrong : ChangeSpec := { name := "opEven", fn := fun _ => fun
  | [d1, d2] => { results := [.lit (.bool false)], args := [d1, d2] }
  | _ => none }
def OpEvenWrongFalsely : Prop := opEvenRow.holds Try.pinned (OpenSpec.ofChange opEvenWrong)

/-- 'gatehouselaw.OpCounts': WHATEVER THE INPUT: true; the input reads as it did. -/
def opCountsSpec : ChangeSpec := { name := "opCounts", fn := fun _ => fun
  | [d1, d2, d3] => { results := [.lit (.bool true)], args := [d1, d2, d3] }
  | _ => none }
def opCountsRow : OpenClaim := { program := "ytfmcapmaebfppaa", sum := "bbeb3603440404ebda8ebb91c691be8365ee200fe7ec207985efb7e1c442c4f1", func := "gatehouse/gatehouselaw.OpCounts", spec := "opCounts", apart := false }
def OpCountsSaid : Prop := opCountsRow.holds Try.pinned (OpenSpec.ofChange opCountsSpec)

/-- ITS FALSE NEIGHBOUR: 'it returns false'. Refute it at one input. -/
def opCountsWrong : ChangeSpec := { name := "opCounts", fn := fun _ => fun
  | [d1, d2, d3] => { results := [.lit (.bool false)], args := [d1, d2, d3] }
  | _ => none }
def OpCountsWrongFalsely : Prop := opCountsRow.holds Try.pinned (OpenSpec.ofChange opCountsWrong)

/-- 'gatehousekeep.BoundHolds': WHATEVER THE INPUT: true; the input reads as it did. -/
def boundHoldsSpec : ChangeSpec := { name := "boundHolds", fn := fun _ => fun
  | [d1, d2, d3, d4, d5] => { results := [.lit (.bool true)], args := [d1, d2, d3, d4, d5] }
  | _ => none }
def boundHoldsRow : OpenClaim := { program := "ytfmcapmaebfppaa", sum := "bbeb3603440404ebda8ebb91c691be8365ee200fe7ec207985efb7e1c442c4f1", func := "gatehouse/gatehousekeep.BoundHolds", spec := "boundHolds", unfollowed := true, recurses := true, apart := false }
def BoundHoldsSaid : Prop := boundHoldsRow.holds Try.pinned (OpenSpec.ofChange boundHoldsSpec)

/-- ITS FALSE NEIGHBOUR: 'it returns false'. Refute it at one input. -/
def boundHoldsWrong : ChangeSpec := { name := "boundHolds", fn := fun _ => fun
  | [d1, d2, d3, d4, d5] => { results := [.lit (.bool false)], args := [d1, d2, d3, d4, d5] }
  | _ => none }
def BoundHoldsWrongFalsely : Prop := boundHoldsRow.holds Try.pinned (OpenSpec.ofChange boundHoldsWrong)

/- THE SECOND FORM. 'bulk': how many values and letters a reading holds, each counted each time it is reached (what is shared counts as often as it is met; a slice's spare places count too). A statement '..UptoSaid' is the law's where the arguments, and the package variables that the reading takes, are together of bulk at most 1048576: NARROWER than '..Said'. Prove '..Said' where nothing that the law and all that it calls make is longer than what came in: it says more and counts as full. Else prove '..UptoSaid'. A law counts once. -/
mutual
def uptoBulk {H : Type} : DataW H → Nat
  | .lit (.string bytes) => bytes.length + 1
  | .lit _ => 1
  | .nil => 1
  | .ptr d => uptoBulk d + 1
  | .slice elems spare => uptoBulkAll elems + uptoBulkAll spare + 1
  | .agg parts => uptoBulkAll parts + 1
  | .iface _ d => uptoBulk d + 1
  | .map entries => uptoBulkEntries entries + 1
  | .held _ => 1
def uptoBulkAll {H : Type} : List (DataW H) → Nat
  | [] => 0
  | d :: r => uptoBulk d + uptoBulkAll r
def uptoBulkEntries {H : Type} : List (Lit × DataW H) → Nat
  | [] => 0
  | x :: r => uptoBulkEntry x + uptoBulkEntries r
def uptoBulkEntry {H : Type} : Lit × DataW H → Nat
  | (.string bytes, d) => bytes.length + uptoBulk d + 1
  | (_, d) => uptoBulk d + 1
 end
def uptoSmall : (H : Type) → List (DataW H) → Bool := fun _ ds => decide (uptoBulkAll ds ≤ 1048576)
def OpenSpec.upto (s : _root_.Go.ChangeSpec) : _root_.Go.OpenSpec := { _root_.Go.OpenSpec.ofChange s with cond := some uptoSmall }

/-- 'gatehousekeep.OpEven', WHERE WHAT IT READS IS OF BULK AT MOST 1048576: true; the input reads as it did. -/
def opEvenUptoRow : OpenClaim := { program := "ytfmcapmaebfppaa", sum := "bbeb3603440404ebda8ebb91c691be8365ee200fe7ec207985efb7e1c442c4f1", func := "gatehouse/gatehousekeep.OpEven", spec := "opEven", unfollowed := true, recurses := true, apart := false, narrowed := true }
def OpEvenUptoSaid : Prop := opEvenUptoRow.holds Try.pinned (OpenSpec.upto opEvenSpec)

/-- 'gatehouselaw.OpCounts', WHERE WHAT IT READS IS OF BULK AT MOST 1048576: true; the input reads as it did. -/
def opCountsUptoRow : OpenClaim := { program := "ytfmcapmaebfppaa", sum := "bbeb3603440404ebda8ebb91c691be8365ee200fe7ec207985efb7e1c442c4f1", func := "gatehouse/gatehouselaw.OpCounts", spec := "opCounts", apart := false, narrowed := true }
def OpCountsUptoSaid : Prop := opCountsUptoRow.holds Try.pinned (OpenSpec.upto opCountsSpec)

/-- 'gatehousekeep.BoundHolds', WHERE WHAT IT READS IS OF BULK AT MOST 1048576: true; the input reads as it did. -/
def boundHoldsUptoRow : OpenClaim := { program := "ytfmcapmaebfppaa", sum := "bbeb3603440404ebda8ebb91c691be8365ee200fe7ec207985efb7e1c442c4f1", func := "gatehouse/gatehousekeep.BoundHolds", spec := "boundHolds", unfollowed := true, recurses := true, apart := false, narrowed := true }
def BoundHoldsUptoSaid : Prop := boundHoldsUptoRow.holds Try.pinned (OpenSpec.upto boundHoldsSpec)

end Rows
end Go.Proofs.Ytfmcapmaebfppaa
