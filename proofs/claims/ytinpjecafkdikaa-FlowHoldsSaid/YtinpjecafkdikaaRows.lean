/-
  No cell of these rows narrows 'for every input' (looked for: loops, veiled, ifaces, maps, wideKeys, modest, calm, conditions, laid).
  DERIVED. THE GIVEN ROWS OF THIS SEAT. 5 by the template 'for every input the law returns true; each argument reads behind the call as it read before'; 0 by the template 'total and deterministic' (their statements: YtinpjecafkdikaaTotals.lean).
  GIVEN WITH THE SEED: the statements are not yours to turn. If you find one false, say at which input.
  Laid BY PROGRAM, IN A SANDBOX (cutbox-rows.mjs): the forced cells as the released guide's own fill.sh prints them over the translation 3049f5d65bef34fb… (all of the seat's roots in one cut). By AI agents, Wed Nov 11 2026. No macro, syntax, notation, axiom, sorry.
-/
import Derived.Test.YtinpjecafkdikaaChecked
import GoSem.Claim
import GoSem.ClaimJoined
import GoSem.ClaimMapViews
import Derived.JoinedTies
import Derived.KernelRfl
namespace Go.Proofs.Ytinpjecafkdikaa
/- THE CELL 'sum', in the pinned program and in every row, IS THE sha256 OF THE DUMP (.gsa) THAT YtinpjecafkdikaaProg.lean LOADS. Nothing in Lean hashes anything: it is a label: what it is worth is what the hold of that sum in a sandbox is worth. -/
noncomputable def Try.pinned : Pinned := { name := "ytinpjecafkdikaa", sum := "3049f5d65bef34fbaf6f2088fd7fd671fc6273996a0d0934b5e72e1c84009bb1", checked := Try.checked }
namespace Rows
def none {H : Type} : Left H := { results := [], args := [] }

/-- 'scarablaw06.FlowNexts': WHATEVER THE INPUT: true; the input reads as it did. -/
def flowNextsSpec : ChangeSpec := { name := "flowNexts", fn := fun _ => fun
  | [d1, d2, d3] => { results := [.lit (.bool true)], args := [d1, d2, d3] }
  | _ => none }
def flowNextsRow : OpenClaim := { program := "ytinpjecafkdikaa", sum := "3049f5d65bef34fbaf6f2088fd7fd671fc6273996a0d0934b5e72e1c84009bb1", func := "scarab/scarablaw06.FlowNexts", spec := "flowNexts", unfollowed := true, recurses := true, apart := false }
def FlowNextsSaid : Prop := flowNextsRow.holds Try.pinned (OpenSpec.ofChange flowNextsSpec)

/-- ITS FALSE NEIGHBOUR: 'it returns false'. Refute it at one input. -/
def flowNextsWrong : ChangeSpec := { name := "flowNexts", fn := fun _ => fun
  | [d1, d2, d3] => { results := [.lit (.bool false)], args := [d1, d2, d3] }
  | _ => none }
def FlowNextsWrongFalsely : Prop := flowNextsRow.holds Try.pinned (OpenSpec.ofChange flowNextsWrong)

/-- 'scarablaw06.FlowGrows': WHATEVER THE INPUT: true; the input reads as it did. -/
def flowGrowsSpec : ChangeSpec := { name := "flowGrows", fn := fun _ => fun
  | [d1, d2, d3] => { results := [.lit (.bool true)], args := [d1, d2, d3] }
  | _ => none }
def flowGrowsRow : OpenClaim := { program := "ytinpjecafkdikaa", sum := "3049f5d65bef34fbaf6f2088fd7fd671fc6273996a0d0934b5e72e1c84009bb1", func := "scarab/scarablaw06.FlowGrows", spec := "flowGrows", unfollowed := true, recurses := true, apart := false }
def FlowGrowsSaid : Prop := flowGrowsRow.holds Try.pinned (OpenSpec.ofChange flowGrowsSpec)

/-- ITS FALSE NEIGHBOUR: 'it returns false'. Refute it at one input. -/
def flowGrowsWrong : ChangeSpec := { name := "flowGrows", fn := fun _ => fun
  | [d1, d2, d3] => { results := [.lit (.bool false)], args := [d1, d2, d3] }
  | _ => none }
def FlowGrowsWrongFalsely : Prop := flowGrowsRow.holds Try.pinned (OpenSpec.ofChange flowGrowsWrong)

/-- 'scarablaw06.FlowLooks': WHATEVER THE INPUT: true; the input reads as it did. -/
def flowLooksSpec : ChangeSpec := { name := "flowLooks", fn := fun _ => fun
  | [d1, d2] => { results := [.lit (.bool true)], args := [d1, d2] }
  | _ => none }
def flowLooksRow : OpenClaim := { program := "ytinpjecafkdikaa", sum := "3049f5d65bef34fbaf6f2088fd7fd671fc6273996a0d0934b5e72e1c84009bb1", func := "scarab/scarablaw06.FlowLooks", spec := "flowLooks", unfollowed := true, recurses := true, apart := false }
def FlowLooksSaid : Prop := flowLooksRow.holds Try.pinned (OpenSpec.ofChange flowLooksSpec)

/-- ITS FALSE NEIGHBOUR: 'it returns false'. Refute it at one input. -/
def flowLooksWrong : ChangeSpec := { name := "flowLooks", fn := fun _ => fun
  | [d1, d2] => { results := [.lit (.bool false)], args := [d1, d2] }
  | _ => none }
def FlowLooksWrongFalsely : Prop := flowLooksRow.holds Try.pinned (OpenSpec.ofChange flowLooksWrong)

/-- 'scarablaw06.FlowTouches': WHATEVER THE INPUT: true; the input reads as it did. -/
def flowTouchesSpec : ChangeSpec := { name := "flowTouches", fn := fun _ => fun
  | [d1, d2, d3] => { results := [.lit (.bool true)], args := [d1, d2, d3] }
  | _ => none }
def flowTouchesRow : OpenClaim := { program := "ytinpjecafkdikaa", sum := "3049f5d65bef34fbaf6f2088fd7fd671fc6273996a0d0934b5e72e1c84009bb1", func := "scarab/scarablaw06.FlowTouches", spec := "flowTouches", unfollowed := true, recurses := true, apart := false }
def FlowTouchesSaid : Prop := flowTouchesRow.holds Try.pinned (OpenSpec.ofChange flowTouchesSpec)

/-- ITS FALSE NEIGHBOUR: 'it returns false'. Refute it at one input. -/
def flowTouchesWrong : ChangeSpec := { name := "flowTouches", fn := fun _ => fun
  | [d1, d2, d3] => { results := [.lit (.bool false)], args := [d1, d2, d3] }
  | _ => none }
def FlowTouchesWrongFalsely : Prop := flowTouchesRow.holds Try.pinned (OpenSpec.ofChange flowTouchesWrong)

/-- 'scarablaw06.FlowHolds': WHATEVER THE INPUT: true; the input reads as it did. -/
def flowHoldsSpec : ChangeSpec := { name := "flowHolds", fn := fun _ => fun
  | [d1, d2, d3] => { results := [.lit (.bool true)], args := [d1, d2, d3] }
  | _ => none }
def flowHoldsRow : OpenClaim := { program := "ytinpjecafkdikaa", sum := "3049f5d65bef34fbaf6f2088fd7fd671fc6273996a0d0934b5e72e1c84009bb1", func := "scarab/scarablaw06.FlowHolds", spec := "flowHolds", unfollowed := true, recurses := true, apart := false }
def FlowHoldsSaid : Prop := flowHoldsRow.holds Try.pinned (OpenSpec.ofChange flowHoldsSpec)

/-- ITS FALSE NEIGHBOUR: 'it returns false'. Refute it at one input. -/
def flowHoldsWrong : ChangeSpec := { name := "flowHolds", fn := fun _ => fun
  | [d1, d2, d3] => { results := [.lit (.bool false)], args := [d1, d2, d3] }
  | _ => none }
def FlowHoldsWrongFalsely : Prop := flowHoldsRow.holds Try.pinned (OpenSpec.ofChange flowHoldsWrong)

/- THE SECOND FORM. 'bulk': how many values and letters a reading holds, each counted each time it is reached (what is shared counts as often as it is met; a slice's spare places count too). A statement '..UptoSaid' is the law's where the arguments, and the package variables that the reading takes, are together of bulk at most 1048576: NARROWER than '..Said'. Prove '..Said' where nothing that the law and all that it calls make is longer than what came in: it says more and counts as full. Else prove '..UptoSaid'. A law counts once. -/
mutual
def uptoBulk {H : Type} : DataW H → Nat
  | .lit (.string bytes) => bytes.length + 1
  | .lit _ => 1
  | .nil => 1
  | .ptr d => uptoBulk d + 1
  | .slice elems spare => uptoBulkAll elems + uptoBulkAll spare + 1
  | .agg parts => uptoBulkAll parts + 1
  | .iface _ d => uptoBulk d + 1
  | .map entries => uptoBulkEntries entries + 1
  | .held _ => 1
def uptoBulkAll {H : Type} : List (DataW H) → Nat
  | [] => 0
  | d :: r => uptoBulk d + uptoBulkAll r
def uptoBulkEntries {H : Type} : List (Lit × DataW H) → Nat
  | [] => 0
  | x :: r => uptoBulkEntry x + uptoBulkEntries r
def uptoBulkEntry {H : Type} : Lit × DataW H → Nat
  | (.string bytes, d) => bytes.length + uptoBulk d + 1
  | (_, d) => uptoBulk d + 1
 end
def uptoSmall : (H : Type) → List (DataW H) → Bool := fun _ ds => decide (uptoBulkAll ds ≤ 1048576)
def OpenSpec.upto (s : _root_.Go.ChangeSpec) : _root_.Go.OpenSpec := { _root_.Go.OpenSpec.ofChange s with cond := some uptoSmall }

/-- 'scarablaw06.FlowNexts', WHERE WHAT IT READS IS OF BULK AT MOST 1048576: true; the input reads as it did. -/
def flowNextsUptoRow : OpenClaim := { program := "ytinpjecafkdikaa", sum := "3049f5d65bef34fbaf6f2088fd7fd671fc6273996a0d0934b5e72e1c84009bb1", func := "scarab/scarablaw06.FlowNexts", spec := "flowNexts", unfollowed := true, recurses := true, apart := false, narrowed := true }
def FlowNextsUptoSaid : Prop := flowNextsUptoRow.holds Try.pinned (OpenSpec.upto flowNextsSpec)

/-- 'scarablaw06.FlowGrows', WHERE WHAT IT READS IS OF BULK AT MOST 1048576: true; the input reads as it did. -/
def flowGrowsUptoRow : OpenClaim := { program := "ytinpjecafkdikaa", sum := "3049f5d65bef34fbaf6f2088fd7fd671fc6273996a0d0934b5e72e1c84009bb1", func := "scarab/scarablaw06.FlowGrows", spec := "flowGrows", unfollowed := true, recurses := true, apart := false, narrowed := true }
def FlowGrowsUptoSaid : Prop := flowGrowsUptoRow.holds Try.pinned (OpenSpec.upto flowGrowsSpec)

/-- 'scarablaw06.FlowLooks', WHERE WHAT IT READS IS OF BULK AT MOST 1048576: true; the input reads as it did. -/
def flowLooksUptoRow : OpenClaim := { program := "ytinpjecafkdikaa", sum := "3049f5d65bef34fbaf6f2088fd7fd671fc6273996a0d0934b5e72e1c84009bb1", func := "scarab/scarablaw06.FlowLooks", spec := "flowLooks", unfollowed := true, recurses := true, apart := false, narrowed := true }
def FlowLooksUptoSaid : Prop := flowLooksUptoRow.holds Try.pinned (OpenSpec.upto flowLooksSpec)

/-- 'scarablaw06.FlowTouches', WHERE WHAT IT READS IS OF BULK AT MOST 1048576: true; the input reads as it did. -/
def flowTouchesUptoRow : OpenClaim := { program := "ytinpjecafkdikaa", sum := "3049f5d65bef34fbaf6f2088fd7fd671fc6273996a0d0934b5e72e1c84009bb1", func := "scarab/scarablaw06.FlowTouches", spec := "flowTouches", unfollowed := true, recurses := true, apart := false, narrowed := true }
def FlowTouchesUptoSaid : Prop := flowTouchesUptoRow.holds Try.pinned (OpenSpec.upto flowTouchesSpec)

/-- 'scarablaw06.FlowHolds', WHERE WHAT IT READS IS OF BULK AT MOST 1048576: true; the input reads as it did. -/
def flowHoldsUptoRow : OpenClaim := { program := "ytinpjecafkdikaa", sum := "3049f5d65bef34fbaf6f2088fd7fd671fc6273996a0d0934b5e72e1c84009bb1", func := "scarab/scarablaw06.FlowHolds", spec := "flowHolds", unfollowed := true, recurses := true, apart := false, narrowed := true }
def FlowHoldsUptoSaid : Prop := flowHoldsUptoRow.holds Try.pinned (OpenSpec.upto flowHoldsSpec)

end Rows
end Go.Proofs.Ytinpjecafkdikaa
