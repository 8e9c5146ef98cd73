/-
  No cell of these rows narrows 'for every input' (looked for: loops, veiled, ifaces, maps, wideKeys, modest, calm, conditions, laid).
  DERIVED. THE GIVEN ROWS OF THIS SEAT. 5 by the template 'for every input the law returns true; each argument reads behind the call as it read before'; 0 by the template 'total and deterministic' (their statements: YtlolloejmdgkjaaTotals.lean).
  GIVEN WITH THE SEED: the statements are not yours to turn. If you find one false, say at which input.
  Laid BY PROGRAM, IN A SANDBOX (cutbox-rows.mjs): the forced cells as the released guide's own fill.sh prints them over the translation 00f8864abe38bf6e… (all of the seat's roots in one cut). By AI agents, Wed Nov 11 2026. No macro, syntax, notation, axiom, sorry.
-/
import Derived.Test.YtlolloejmdgkjaaChecked
import GoSem.Claim
import GoSem.ClaimJoined
import GoSem.ClaimMapViews
import Derived.JoinedTies
import Derived.KernelRfl
namespace Go.Proofs.Ytlolloejmdgkjaa
/- THE CELL 'sum', in the pinned program and in every row, IS THE sha256 OF THE DUMP (.gsa) THAT YtlolloejmdgkjaaProg.lean LOADS. Nothing in Lean hashes anything: it is a label: what it is worth is what the hold of that sum in a sandbox is worth. -/
noncomputable def Try.pinned : Pinned := { name := "ytlolloejmdgkjaa", sum := "00f8864abe38bf6e169128b813ed74d46e29e638193b98f3219051a1d829c866", checked := Try.checked }
namespace Rows
def none {H : Type} : Left H := { results := [], args := [] }

/-- 'scarablaw23.VerdictOrder': WHATEVER THE INPUT: true; the input reads as it did. -/
def verdictOrderSpec : ChangeSpec := { name := "verdictOrder", fn := fun _ => fun
  | [d1, d2, d3] => { results := [.lit (.bool true)], args := [d1, d2, d3] }
  | _ => none }
def verdictOrderRow : OpenClaim := { program := "ytlolloejmdgkjaa", sum := "00f8864abe38bf6e169128b813ed74d46e29e638193b98f3219051a1d829c866", func := "scarab/scarablaw23.VerdictOrder", spec := "verdictOrder", apart := false }
def VerdictOrderSaid : Prop := verdictOrderRow.holds Try.pinned (OpenSpec.ofChange verdictOrderSpec)

/-- ITS FALSE NEIGHBOUR: 'it returns false'. Refute it at one input. -/
def verdictOrderWrong : ChangeSpec := { name := "verdictOrder", fn := fun _ => fun
  | [d1, d2, d3] => { results := [.lit (.bool false)], args := [d1, d2, d3] }
  | _ => none }
def VerdictOrderWrongFalsely : Prop := verdictOrderRow.holds Try.pinned (OpenSpec.ofChange verdictOrderWrong)

/-- 'scarablaw27.WitnessWrites': WHATEVER THE INPUT: true; the input reads as it did. -/
def witnessWritesSpec : ChangeSpec := { name := "witnessWrites", fn := fun _ => fun
  | [d] => { results := [.lit (.bool true)], args := [d] }
  | _ => none }
def witnessWritesRow : OpenClaim := { program := "ytlolloejmdgkjaa", sum := "00f8864abe38bf6e169128b813ed74d46e29e638193b98f3219051a1d829c866", func := "scarab/scarablaw27.WitnessWrites", spec := "witnessWrites", unfollowed := true, recurses := true, apart := false }
def WitnessWritesSaid : Prop := witnessWritesRow.holds Try.pinned (OpenSpec.ofChange witnessWritesSpec)

/-- ITS FALSE NEIGHBOUR: 'it returns false'. Refute it at one input. -/
def witnessWritesWrong : ChangeSpec := { name := "witnessWrites", fn := fun _ => fun
  | [d] => { results := [.lit (.bool false)], args := [d] }
  | _ => none }
def WitnessWritesWrongFalsely : Prop := witnessWritesRow.holds Try.pinned (OpenSpec.ofChange witnessWritesWrong)

/-- 'scarablaw27.WitnessReads': WHATEVER THE INPUT: true; the input reads as it did. -/
def witnessReadsSpec : ChangeSpec := { name := "witnessReads", fn := fun _ => fun
  | [d] => { results := [.lit (.bool true)], args := [d] }
  | _ => none }
def witnessReadsRow : OpenClaim := { program := "ytlolloejmdgkjaa", sum := "00f8864abe38bf6e169128b813ed74d46e29e638193b98f3219051a1d829c866", func := "scarab/scarablaw27.WitnessReads", spec := "witnessReads", unfollowed := true, recurses := true, apart := false }
def WitnessReadsSaid : Prop := witnessReadsRow.holds Try.pinned (OpenSpec.ofChange witnessReadsSpec)

/-- ITS FALSE NEIGHBOUR: 'it returns false'. Refute it at one input. -/
def witnessReadsWrong : ChangeSpec := { name := "witnessReads", fn := fun _ => fun
  | [d] => { results := [.lit (.bool false)], args := [d] }
  | _ => none }
def WitnessReadsWrongFalsely : Prop := witnessReadsRow.holds Try.pinned (OpenSpec.ofChange witnessReadsWrong)

/-- 'scarablaw27.WitnessBack': WHATEVER THE INPUT: true; the input reads as it did. -/
def witnessBackSpec : ChangeSpec := { name := "witnessBack", fn := fun _ => fun
  | [d1, d2] => { results := [.lit (.bool true)], args := [d1, d2] }
  | _ => none }
def witnessBackRow : OpenClaim := { program := "ytlolloejmdgkjaa", sum := "00f8864abe38bf6e169128b813ed74d46e29e638193b98f3219051a1d829c866", func := "scarab/scarablaw27.WitnessBack", spec := "witnessBack", unfollowed := true, recurses := true, apart := false }
def WitnessBackSaid : Prop := witnessBackRow.holds Try.pinned (OpenSpec.ofChange witnessBackSpec)

/-- ITS FALSE NEIGHBOUR: 'it returns false'. Refute it at one input. -/
def witnessBackWrong : ChangeSpec := { name := "witnessBack", fn := fun _ => fun
  | [d1, d2] => { results := [.lit (.bool false)], args := [d1, d2] }
  | _ => none }
def WitnessBackWrongFalsely : Prop := witnessBackRow.holds Try.pinned (OpenSpec.ofChange witnessBackWrong)

/-- 'scarablaw27.WitnessFlips': WHATEVER THE INPUT: true; the input reads as it did. -/
def witnessFlipsSpec : ChangeSpec := { name := "witnessFlips", fn := fun _ => fun
  | [d1, d2, d3] => { results := [.lit (.bool true)], args := [d1, d2, d3] }
  | _ => none }
def witnessFlipsRow : OpenClaim := { program := "ytlolloejmdgkjaa", sum := "00f8864abe38bf6e169128b813ed74d46e29e638193b98f3219051a1d829c866", func := "scarab/scarablaw27.WitnessFlips", spec := "witnessFlips", unfollowed := true, recurses := true, apart := false }
def WitnessFlipsSaid : Prop := witnessFlipsRow.holds Try.pinned (OpenSpec.ofChange witnessFlipsSpec)

/-- ITS FALSE NEIGHBOUR: 'it returns false'. Refute it at one input. -/
def witnessFlipsWrong : ChangeSpec := { name := "witnessFlips", fn := fun _ => fun
  | [d1, d2, d3] => { results := [.lit (.bool false)], args := [d1, d2, d3] }
  | _ => none }
def WitnessFlipsWrongFalsely : Prop := witnessFlipsRow.holds Try.pinned (OpenSpec.ofChange witnessFlipsWrong)

/- THE SECOND FORM. 'bulk': how many values and letters a reading holds, each counted each time it is reached (what is shared counts as often as it is met; a slice's spare places count too). A statement '..UptoSaid' is the law's where the arguments, and the package variables that the reading takes, are together of bulk at most 1048576: NARROWER than '..Said'. Prove '..Said' where nothing that the law and all that it calls make is longer than what came in: it says more and counts as full. Else prove '..UptoSaid'. A law counts once. -/
mutual
def uptoBulk {H : Type} : DataW H → Nat
  | .lit (.string bytes) => bytes.length + 1
  | .lit _ => 1
  | .nil => 1
  | .ptr d => uptoBulk d + 1
  | .slice elems spare => uptoBulkAll elems + uptoBulkAll spare + 1
  | .agg parts => uptoBulkAll parts + 1
  | .iface _ d => uptoBulk d + 1
  | .map entries => uptoBulkEntries entries + 1
  | .held _ => 1
def uptoBulkAll {H : Type} : List (DataW H) → Nat
  | [] => 0
  | d :: r => uptoBulk d + uptoBulkAll r
def uptoBulkEntries {H : Type} : List (Lit × DataW H) → Nat
  | [] => 0
  | x :: r => uptoBulkEntry x + uptoBulkEntries r
def uptoBulkEntry {H : Type} : Lit × DataW H → Nat
  | (.string bytes, d) => bytes.length + uptoBulk d + 1
  | (_, d) => uptoBulk d + 1
 end
def uptoSmall : (H : Type) → List (DataW H) → Bool := fun _ ds => decide (uptoBulkAll ds ≤ 1048576)
def OpenSpec.upto (s : _root_.Go.ChangeSpec) : _root_.Go.OpenSpec := { _root_.Go.OpenSpec.ofChange s with cond := some uptoSmall }

/-- 'scarablaw23.VerdictOrder', WHERE WHAT IT READS IS OF BULK AT MOST 1048576: true; the input reads as it did. -/
def verdictOrderUptoRow : OpenClaim := { program := "ytlolloejmdgkjaa", sum := "00f8864abe38bf6e169128b813ed74d46e29e638193b98f3219051a1d829c866", func := "scarab/scarablaw23.VerdictOrder", spec := "verdictOrder", apart := false, narrowed := true }
def VerdictOrderUptoSaid : Prop := verdictOrderUptoRow.holds Try.pinned (OpenSpec.upto verdictOrderSpec)

/-- 'scarablaw27.WitnessWrites', WHERE WHAT IT READS IS OF BULK AT MOST 1048576: true; the input reads as it did. -/
def witnessWritesUptoRow : OpenClaim := { program := "ytlolloejmdgkjaa", sum := "00f8864abe38bf6e169128b813ed74d46e29e638193b98f3219051a1d829c866", func := "scarab/scarablaw27.WitnessWrites", spec := "witnessWrites", unfollowed := true, recurses := true, apart := false, narrowed := true }
def WitnessWritesUptoSaid : Prop := witnessWritesUptoRow.holds Try.pinned (OpenSpec.upto witnessWritesSpec)

/-- 'scarablaw27.WitnessReads', WHERE WHAT IT READS IS OF BULK AT MOST 1048576: true; the input reads as it did. -/
def witnessReadsUptoRow : OpenClaim := { program := "ytlolloejmdgkjaa", sum := "00f8864abe38bf6e169128b813ed74d46e29e638193b98f3219051a1d829c866", func := "scarab/scarablaw27.WitnessReads", spec := "witnessReads", unfollowed := true, recurses := true, apart := false, narrowed := true }
def WitnessReadsUptoSaid : Prop := witnessReadsUptoRow.holds Try.pinned (OpenSpec.upto witnessReadsSpec)

/-- 'scarablaw27.WitnessBack', WHERE WHAT IT READS IS OF BULK AT MOST 1048576: true; the input reads as it did. -/
def witnessBackUptoRow : OpenClaim := { program := "ytlolloejmdgkjaa", sum := "00f8864abe38bf6e169128b813ed74d46e29e638193b98f3219051a1d829c866", func := "scarab/scarablaw27.WitnessBack", spec := "witnessBack", unfollowed := true, recurses := true, apart := false, narrowed := true }
def WitnessBackUptoSaid : Prop := witnessBackUptoRow.holds Try.pinned (OpenSpec.upto witnessBackSpec)

/-- 'scarablaw27.WitnessFlips', WHERE WHAT IT READS IS OF BULK AT MOST 1048576: true; the input reads as it did. -/
def witnessFlipsUptoRow : OpenClaim := { program := "ytlolloejmdgkjaa", sum := "00f8864abe38bf6e169128b813ed74d46e29e638193b98f3219051a1d829c866", func := "scarab/scarablaw27.WitnessFlips", spec := "witnessFlips", unfollowed := true, recurses := true, apart := false, narrowed := true }
def WitnessFlipsUptoSaid : Prop := witnessFlipsUptoRow.holds Try.pinned (OpenSpec.upto witnessFlipsSpec)

end Rows
end Go.Proofs.Ytlolloejmdgkjaa
