/-
  No cell of these rows narrows 'for every input' (looked for: loops, veiled, ifaces, maps, wideKeys, modest, calm, conditions, laid).
  DERIVED. THE GIVEN ROWS OF THIS SEAT. 7 by the template 'for every input the law returns true; each argument reads behind the call as it read before'; 0 by the template 'total and deterministic' (their statements: YtdjcfjfgdblefaaTotals.lean).
  GIVEN WITH THE SEED: the statements are not yours to turn. If you find one false, say at which input.
  Laid BY PROGRAM, IN A SANDBOX (cutbox-rows.mjs): the forced cells as the released guide's own fill.sh prints them over the translation 075ad15205379137… (all of the seat's roots in one cut). By AI agents, Wed Nov 11 2026. No macro, syntax, notation, axiom, sorry.
-/
import Derived.Test.YtdjcfjfgdblefaaChecked
import GoSem.Claim
import GoSem.ClaimJoined
import GoSem.ClaimMapViews
import Derived.JoinedTies
import Derived.KernelRfl
namespace Go.Proofs.Ytdjcfjfgdblefaa
/- THE CELL 'sum', in the pinned program and in every row, IS THE sha256 OF THE DUMP (.gsa) THAT YtdjcfjfgdblefaaProg.lean LOADS. Nothing in Lean hashes anything: it is a label: what it is worth is what the hold of that sum in a sandbox is worth. -/
noncomputable def Try.pinned : Pinned := { name := "ytdjcfjfgdblefaa", sum := "075ad15205379137bbc1f5aabbd124a4c6e8ee1517349302700cd028c748806a", checked := Try.checked }
namespace Rows
def none {H : Type} : Left H := { results := [], args := [] }

/-- 'scarablaw03.ProgCopies': WHATEVER THE INPUT: true; the input reads as it did. -/
def progCopiesSpec : ChangeSpec := { name := "progCopies", fn := fun _ => fun
  | [d] => { results := [.lit (.bool true)], args := [d] }
  | _ => none }
def progCopiesRow : OpenClaim := { program := "ytdjcfjfgdblefaa", sum := "075ad15205379137bbc1f5aabbd124a4c6e8ee1517349302700cd028c748806a", func := "scarab/scarablaw03.ProgCopies", spec := "progCopies", apart := false }
def ProgCopiesSaid : Prop := progCopiesRow.holds Try.pinned (OpenSpec.ofChange progCopiesSpec)

/-- ITS FALSE NEIGHBOUR: 'it returns false'. Refute it at one input. -/
def progCopiesWrong : ChangeSpec := { name := "progCopies", fn := fun _ => fun
  | [d] => { results := [.lit (.bool false)], args := [d] }
  | _ => none }
def ProgCopiesWrongFalsely : Prop := progCopiesRow.holds Try.pinned (OpenSpec.ofChange progCopiesWrong)

/-- 'scarablaw03.ProgSames': WHATEVER THE INPUT: true; the input reads as it did. -/
def progSamesSpec : ChangeSpec := { name := "progSames", fn := fun _ => fun
  | [d1, d2] => { results := [.lit (.bool true)], args := [d1, d2] }
  | _ => none }
def progSamesRow : OpenClaim := { program := "ytdjcfjfgdblefaa", sum := "075ad15205379137bbc1f5aabbd124a4c6e8ee1517349302700cd028c748806a", func := "scarab/scarablaw03.ProgSames", spec := "progSames", unfollowed := true, recurses := true, apart := false }
def ProgSamesSaid : Prop := progSamesRow.holds Try.pinned (OpenSpec.ofChange progSamesSpec)

/-- ITS FALSE NEIGHBOUR: 'it returns false'. Refute it at one input. -/
def progSamesWrong : ChangeSpec := { name := "progSames", fn := fun _ => fun
  | [d1, d2] => { results := [.lit (.bool false)], args := [d1, d2] }
  | _ => none }
def ProgSamesWrongFalsely : Prop := progSamesRow.holds Try.pinned (OpenSpec.ofChange progSamesWrong)

/-- 'scarablaw03.ProgForms': WHATEVER THE INPUT: true; the input reads as it did. -/
def progFormsSpec : ChangeSpec := { name := "progForms", fn := fun _ => fun
  | [d1, d2] => { results := [.lit (.bool true)], args := [d1, d2] }
  | _ => none }
def progFormsRow : OpenClaim := { program := "ytdjcfjfgdblefaa", sum := "075ad15205379137bbc1f5aabbd124a4c6e8ee1517349302700cd028c748806a", func := "scarab/scarablaw03.ProgForms", spec := "progForms", apart := false }
def ProgFormsSaid : Prop := progFormsRow.holds Try.pinned (OpenSpec.ofChange progFormsSpec)

/-- ITS FALSE NEIGHBOUR: 'it returns false'. Refute it at one input. -/
def progFormsWrong : ChangeSpec := { name := "progForms", fn := fun _ => fun
  | [d1, d2] => { results := [.lit (.bool false)], args := [d1, d2] }
  | _ => none }
def ProgFormsWrongFalsely : Prop := progFormsRow.holds Try.pinned (OpenSpec.ofChange progFormsWrong)

/-- 'scarablaw03.ProgSpoils': WHATEVER THE INPUT: true; the input reads as it did. -/
def progSpoilsSpec : ChangeSpec := { name := "progSpoils", fn := fun _ => fun
  | [d1, d2, d3] => { results := [.lit (.bool true)], args := [d1, d2, d3] }
  | _ => none }
def progSpoilsRow : OpenClaim := { program := "ytdjcfjfgdblefaa", sum := "075ad15205379137bbc1f5aabbd124a4c6e8ee1517349302700cd028c748806a", func := "scarab/scarablaw03.ProgSpoils", spec := "progSpoils", apart := false }
def ProgSpoilsSaid : Prop := progSpoilsRow.holds Try.pinned (OpenSpec.ofChange progSpoilsSpec)

/-- ITS FALSE NEIGHBOUR: 'it returns false'. Refute it at one input. -/
def progSpoilsWrong : ChangeSpec := { name := "progSpoils", fn := fun _ => fun
  | [d1, d2, d3] => { results := [.lit (.bool false)], args := [d1, d2, d3] }
  | _ => none }
def ProgSpoilsWrongFalsely : Prop := progSpoilsRow.holds Try.pinned (OpenSpec.ofChange progSpoilsWrong)

/-- 'scarablaw03.ProgCounts': WHATEVER THE INPUT: true; the input reads as it did. -/
def progCountsSpec : ChangeSpec := { name := "progCounts", fn := fun _ => fun
  | [d] => { results := [.lit (.bool true)], args := [d] }
  | _ => none }
def progCountsRow : OpenClaim := { program := "ytdjcfjfgdblefaa", sum := "075ad15205379137bbc1f5aabbd124a4c6e8ee1517349302700cd028c748806a", func := "scarab/scarablaw03.ProgCounts", spec := "progCounts", apart := false }
def ProgCountsSaid : Prop := progCountsRow.holds Try.pinned (OpenSpec.ofChange progCountsSpec)

/-- ITS FALSE NEIGHBOUR: 'it returns false'. Refute it at one input. -/
def progCountsWrong : ChangeSpec := { name := "progCounts", fn := fun _ => fun
  | [d] => { results := [.lit (.bool false)], args := [d] }
  | _ => none }
def ProgCountsWrongFalsely : Prop := progCountsRow.holds Try.pinned (OpenSpec.ofChange progCountsWrong)

/-- 'scarablaw03.ProgRegs': WHATEVER THE INPUT: true; the input reads as it did. -/
def progRegsSpec : ChangeSpec := { name := "progRegs", fn := fun _ => fun
  | [d1, d2, d3] => { results := [.lit (.bool true)], args := [d1, d2, d3] }
  | _ => none }
def progRegsRow : OpenClaim := { program := "ytdjcfjfgdblefaa", sum := "075ad15205379137bbc1f5aabbd124a4c6e8ee1517349302700cd028c748806a", func := "scarab/scarablaw03.ProgRegs", spec := "progRegs", unfollowed := true, recurses := true, apart := false }
def ProgRegsSaid : Prop := progRegsRow.holds Try.pinned (OpenSpec.ofChange progRegsSpec)

/-- ITS FALSE NEIGHBOUR: 'it returns false'. Refute it at one input. -/
def progRegsWrong : ChangeSpec := { name := "progRegs", fn := fun _ => fun
  | [d1, d2, d3] => { results := [.lit (.bool false)], args := [d1, d2, d3] }
  | _ => none }
def ProgRegsWrongFalsely : Prop := progRegsRow.holds Try.pinned (OpenSpec.ofChange progRegsWrong)

/-- 'scarablaw03.ProgTouches': WHATEVER THE INPUT: true; the input reads as it did. -/
def progTouchesSpec : ChangeSpec := { name := "progTouches", fn := fun _ => fun
  | [d1, d2] => { results := [.lit (.bool true)], args := [d1, d2] }
  | _ => none }
def progTouchesRow : OpenClaim := { program := "ytdjcfjfgdblefaa", sum := "075ad15205379137bbc1f5aabbd124a4c6e8ee1517349302700cd028c748806a", func := "scarab/scarablaw03.ProgTouches", spec := "progTouches", unfollowed := true, recurses := true, apart := false }
def ProgTouchesSaid : Prop := progTouchesRow.holds Try.pinned (OpenSpec.ofChange progTouchesSpec)

/-- ITS FALSE NEIGHBOUR: 'it returns false'. Refute it at one input. -/
def progTouchesWrong : ChangeSpec := { name := "progTouches", fn := fun _ => fun
  | [d1, d2] => { results := [.lit (.bool false)], args := [d1, d2] }
  | _ => none }
def ProgTouchesWrongFalsely : Prop := progTouchesRow.holds Try.pinned (OpenSpec.ofChange progTouchesWrong)

/- THE SECOND FORM. 'bulk': how many values and letters a reading holds, each counted each time it is reached (what is shared counts as often as it is met; a slice's spare places count too). A statement '..UptoSaid' is the law's where the arguments, and the package variables that the reading takes, are together of bulk at most 1048576: NARROWER than '..Said'. Prove '..Said' where nothing that the law and all that it calls make is longer than what came in: it says more and counts as full. Else prove '..UptoSaid'. A law counts once. -/
mutual
def uptoBulk {H : Type} : DataW H → Nat
  | .lit (.string bytes) => bytes.length + 1
  | .lit _ => 1
  | .nil => 1
  | .ptr d => uptoBulk d + 1
  | .slice elems spare => uptoBulkAll elems + uptoBulkAll spare + 1
  | .agg parts => uptoBulkAll parts + 1
  | .iface _ d => uptoBulk d + 1
  | .map entries => uptoBulkEntries entries + 1
  | .held _ => 1
def uptoBulkAll {H : Type} : List (DataW H) → Nat
  | [] => 0
  | d :: r => uptoBulk d + uptoBulkAll r
def uptoBulkEntries {H : Type} : List (Lit × DataW H) → Nat
  | [] => 0
  | x :: r => uptoBulkEntry x + uptoBulkEntries r
def uptoBulkEntry {H : Type} : Lit × DataW H → Nat
  | (.string bytes, d) => bytes.length + uptoBulk d + 1
  | (_, d) => uptoBulk d + 1
 end
def uptoSmall : (H : Type) → List (DataW H) → Bool := fun _ ds => decide (uptoBulkAll ds ≤ 1048576)
def OpenSpec.upto (s : _root_.Go.ChangeSpec) : _root_.Go.OpenSpec := { _root_.Go.OpenSpec.ofChange s with cond := some uptoSmall }

/-- 'scarablaw03.ProgCopies', WHERE WHAT IT READS IS OF BULK AT MOST 1048576: true; the input reads as it did. -/
def progCopiesUptoRow : OpenClaim := { program := "ytdjcfjfgdblefaa", sum := "075ad15205379137bbc1f5aabbd124a4c6e8ee1517349302700cd028c748806a", func := "scarab/scarablaw03.ProgCopies", spec := "progCopies", apart := false, narrowed := true }
def ProgCopiesUptoSaid : Prop := progCopiesUptoRow.holds Try.pinned (OpenSpec.upto progCopiesSpec)

/-- 'scarablaw03.ProgSames', WHERE WHAT IT READS IS OF BULK AT MOST 1048576: true; the input reads as it did. -/
def progSamesUptoRow : OpenClaim := { program := "ytdjcfjfgdblefaa", sum := "075ad15205379137bbc1f5aabbd124a4c6e8ee1517349302700cd028c748806a", func := "scarab/scarablaw03.ProgSames", spec := "progSames", unfollowed := true, recurses := true, apart := false, narrowed := true }
def ProgSamesUptoSaid : Prop := progSamesUptoRow.holds Try.pinned (OpenSpec.upto progSamesSpec)

/-- 'scarablaw03.ProgForms', WHERE WHAT IT READS IS OF BULK AT MOST 1048576: true; the input reads as it did. -/
def progFormsUptoRow : OpenClaim := { program := "ytdjcfjfgdblefaa", sum := "075ad15205379137bbc1f5aabbd124a4c6e8ee1517349302700cd028c748806a", func := "scarab/scarablaw03.ProgForms", spec := "progForms", apart := false, narrowed := true }
def ProgFormsUptoSaid : Prop := progFormsUptoRow.holds Try.pinned (OpenSpec.upto progFormsSpec)

/-- 'scarablaw03.ProgSpoils', WHERE WHAT IT READS IS OF BULK AT MOST 1048576: true; the input reads as it did. -/
def progSpoilsUptoRow : OpenClaim := { program := "ytdjcfjfgdblefaa", sum := "075ad15205379137bbc1f5aabbd124a4c6e8ee1517349302700cd028c748806a", func := "scarab/scarablaw03.ProgSpoils", spec := "progSpoils", apart := false, narrowed := true }
def ProgSpoilsUptoSaid : Prop := progSpoilsUptoRow.holds Try.pinned (OpenSpec.upto progSpoilsSpec)

/-- 'scarablaw03.ProgCounts', WHERE WHAT IT READS IS OF BULK AT MOST 1048576: true; the input reads as it did. -/
def progCountsUptoRow : OpenClaim := { program := "ytdjcfjfgdblefaa", sum := "075ad15205379137bbc1f5aabbd124a4c6e8ee1517349302700cd028c748806a", func := "scarab/scarablaw03.ProgCounts", spec := "progCounts", apart := false, narrowed := true }
def ProgCountsUptoSaid : Prop := progCountsUptoRow.holds Try.pinned (OpenSpec.upto progCountsSpec)

/-- 'scarablaw03.ProgRegs', WHERE WHAT IT READS IS OF BULK AT MOST 1048576: true; the input reads as it did. -/
def progRegsUptoRow : OpenClaim := { program := "ytdjcfjfgdblefaa", sum := "075ad15205379137bbc1f5aabbd124a4c6e8ee1517349302700cd028c748806a", func := "scarab/scarablaw03.ProgRegs", spec := "progRegs", unfollowed := true, recurses := true, apart := false, narrowed := true }
def ProgRegsUptoSaid : Prop := progRegsUptoRow.holds Try.pinned (OpenSpec.upto progRegsSpec)

/-- 'scarablaw03.ProgTouches', WHERE WHAT IT READS IS OF BULK AT MOST 1048576: true; the input reads as it did. -/
def progTouchesUptoRow : OpenClaim := { program := "ytdjcfjfgdblefaa", sum := "075ad15205379137bbc1f5aabbd124a4c6e8ee1517349302700cd028c748806a", func := "scarab/scarablaw03.ProgTouches", spec := "progTouches", unfollowed := true, recurses := true, apart := false, narrowed := true }
def ProgTouchesUptoSaid : Prop := progTouchesUptoRow.holds Try.pinned (OpenSpec.upto progTouchesSpec)

end Rows
end Go.Proofs.Ytdjcfjfgdblefaa
