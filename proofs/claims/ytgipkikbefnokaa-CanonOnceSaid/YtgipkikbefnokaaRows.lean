/-
  No cell of these rows narrows 'for every input' (looked for: loops, veiled, ifaces, maps, wideKeys, modest, calm, conditions, laid).
  DERIVED. THE GIVEN ROWS OF THIS SEAT. 14 by the template 'for every input the law returns true; each argument reads behind the call as it read before'; 0 by the template 'total and deterministic' (their statements: YtgipkikbefnokaaTotals.lean).
  GIVEN WITH THE SEED: the statements are not yours to turn. If you find one false, say at which input.
  Laid BY PROGRAM, IN A SANDBOX (cutbox-rows.mjs): the forced cells as the released guide's own fill.sh prints them over the translation a6d6896da9763739… (all of the seat's roots in one cut). By AI agents, Wed Nov 11 2026. No macro, syntax, notation, axiom, sorry.
-/
import Derived.Test.YtgipkikbefnokaaChecked
import GoSem.Claim
import GoSem.ClaimJoined
import GoSem.ClaimMapViews
import Derived.JoinedTies
import Derived.KernelRfl
namespace Go.Proofs.Ytgipkikbefnokaa
/- THE CELL 'sum', in the pinned program and in every row, IS THE sha256 OF THE DUMP (.gsa) THAT YtgipkikbefnokaaProg.lean LOADS. Nothing in Lean hashes anything: it is a label: what it is worth is what the hold of that sum in a sandbox is worth. -/
noncomputable def Try.pinned : Pinned := { name := "ytgipkikbefnokaa", sum := "a6d6896da976373933ff1e618c3c4518ef32b16bdc96f3ecf7157ac96d01e072", checked := Try.checked }
namespace Rows
def none {H : Type} : Left H := { results := [], args := [] }

/-- 'scarablaw13.CanonCounts': WHATEVER THE INPUT: true; the input reads as it did. -/
def canonCountsSpec : ChangeSpec := { name := "canonCounts", fn := fun _ => fun
  | [d1, d2] => { results := [.lit (.bool true)], args := [d1, d2] }
  | _ => none }
def canonCountsRow : OpenClaim := { program := "ytgipkikbefnokaa", sum := "a6d6896da976373933ff1e618c3c4518ef32b16bdc96f3ecf7157ac96d01e072", func := "scarab/scarablaw13.CanonCounts", spec := "canonCounts", unfollowed := true, recurses := true, plainKeys := false, apart := false }
def CanonCountsSaid : Prop := canonCountsRow.holds Try.pinned (OpenSpec.ofChange canonCountsSpec)

/-- ITS FALSE NEIGHBOUR: 'it returns false'. Refute it at one input. -/
def canonCountsWrong : ChangeSpec := { name := "canonCounts", fn := fun _ => fun
  | [d1, d2] => { results := [.lit (.bool false)], args := [d1, d2] }
  | _ => none }
def CanonCountsWrongFalsely : Prop := canonCountsRow.holds Try.pinned (OpenSpec.ofChange canonCountsWrong)

/-- 'scarablaw12.OrderFollows': WHATEVER THE INPUT: true; the input reads as it did. -/
def orderFollowsSpec : ChangeSpec := { name := "orderFollows", fn := fun _ => fun
  | [d] => { results := [.lit (.bool true)], args := [d] }
  | _ => none }
def orderFollowsRow : OpenClaim := { program := "ytgipkikbefnokaa", sum := "a6d6896da976373933ff1e618c3c4518ef32b16bdc96f3ecf7157ac96d01e072", func := "scarab/scarablaw12.OrderFollows", spec := "orderFollows", unfollowed := true, recurses := true, plainKeys := false, apart := false }
def OrderFollowsSaid : Prop := orderFollowsRow.holds Try.pinned (OpenSpec.ofChange orderFollowsSpec)

/-- ITS FALSE NEIGHBOUR: 'it returns false'. Refute it at one input. -/
def orderFollowsWrong : ChangeSpec := { name := "orderFollows", fn := fun _ => fun
  | [d] => { results := [.lit (.bool false)], args := [d] }
  | _ => none }
def OrderFollowsWrongFalsely : Prop := orderFollowsRow.holds Try.pinned (OpenSpec.ofChange orderFollowsWrong)

/-- 'scarablaw12.OrderHigh': WHATEVER THE INPUT: true; the input reads as it did. -/
def orderHighSpec : ChangeSpec := { name := "orderHigh", fn := fun _ => fun
  | [d] => { results := [.lit (.bool true)], args := [d] }
  | _ => none }
def orderHighRow : OpenClaim := { program := "ytgipkikbefnokaa", sum := "a6d6896da976373933ff1e618c3c4518ef32b16bdc96f3ecf7157ac96d01e072", func := "scarab/scarablaw12.OrderHigh", spec := "orderHigh", unfollowed := true, recurses := true, plainKeys := false, apart := false }
def OrderHighSaid : Prop := orderHighRow.holds Try.pinned (OpenSpec.ofChange orderHighSpec)

/-- ITS FALSE NEIGHBOUR: 'it returns false'. Refute it at one input. -/
def orderHighWrong : ChangeSpec := { name := "orderHigh", fn := fun _ => fun
  | [d] => { results := [.lit (.bool false)], args := [d] }
  | _ => none }
def OrderHighWrongFalsely : Prop := orderHighRow.holds Try.pinned (OpenSpec.ofChange orderHighWrong)

/-- 'scarablaw12.OrderByClocks': WHATEVER THE INPUT: true; the input reads as it did. -/
def orderByClocksSpec : ChangeSpec := { name := "orderByClocks", fn := fun _ => fun
  | [d1, d2, d3] => { results := [.lit (.bool true)], args := [d1, d2, d3] }
  | _ => none }
def orderByClocksRow : OpenClaim := { program := "ytgipkikbefnokaa", sum := "a6d6896da976373933ff1e618c3c4518ef32b16bdc96f3ecf7157ac96d01e072", func := "scarab/scarablaw12.OrderByClocks", spec := "orderByClocks", unfollowed := true, recurses := true, plainKeys := false, apart := false }
def OrderByClocksSaid : Prop := orderByClocksRow.holds Try.pinned (OpenSpec.ofChange orderByClocksSpec)

/-- ITS FALSE NEIGHBOUR: 'it returns false'. Refute it at one input. -/
def orderByClocksWrong : ChangeSpec := { name := "orderByClocks", fn := fun _ => fun
  | [d1, d2, d3] => { results := [.lit (.bool false)], args := [d1, d2, d3] }
  | _ => none }
def OrderByClocksWrongFalsely : Prop := orderByClocksRow.holds Try.pinned (OpenSpec.ofChange orderByClocksWrong)

/-- 'scarablaw12.OrderTurned': WHATEVER THE INPUT: true; the input reads as it did. -/
def orderTurnedSpec : ChangeSpec := { name := "orderTurned", fn := fun _ => fun
  | [d1, d2] => { results := [.lit (.bool true)], args := [d1, d2] }
  | _ => none }
def orderTurnedRow : OpenClaim := { program := "ytgipkikbefnokaa", sum := "a6d6896da976373933ff1e618c3c4518ef32b16bdc96f3ecf7157ac96d01e072", func := "scarab/scarablaw12.OrderTurned", spec := "orderTurned", unfollowed := true, recurses := true, plainKeys := false, apart := false }
def OrderTurnedSaid : Prop := orderTurnedRow.holds Try.pinned (OpenSpec.ofChange orderTurnedSpec)

/-- ITS FALSE NEIGHBOUR: 'it returns false'. Refute it at one input. -/
def orderTurnedWrong : ChangeSpec := { name := "orderTurned", fn := fun _ => fun
  | [d1, d2] => { results := [.lit (.bool false)], args := [d1, d2] }
  | _ => none }
def OrderTurnedWrongFalsely : Prop := orderTurnedRow.holds Try.pinned (OpenSpec.ofChange orderTurnedWrong)

/-- 'scarablaw12.OrderClocks': WHATEVER THE INPUT: true; the input reads as it did. -/
def orderClocksSpec : ChangeSpec := { name := "orderClocks", fn := fun _ => fun
  | [d] => { results := [.lit (.bool true)], args := [d] }
  | _ => none }
def orderClocksRow : OpenClaim := { program := "ytgipkikbefnokaa", sum := "a6d6896da976373933ff1e618c3c4518ef32b16bdc96f3ecf7157ac96d01e072", func := "scarab/scarablaw12.OrderClocks", spec := "orderClocks", unfollowed := true, recurses := true, plainKeys := false, apart := false }
def OrderClocksSaid : Prop := orderClocksRow.holds Try.pinned (OpenSpec.ofChange orderClocksSpec)

/-- ITS FALSE NEIGHBOUR: 'it returns false'. Refute it at one input. -/
def orderClocksWrong : ChangeSpec := { name := "orderClocks", fn := fun _ => fun
  | [d] => { results := [.lit (.bool false)], args := [d] }
  | _ => none }
def OrderClocksWrongFalsely : Prop := orderClocksRow.holds Try.pinned (OpenSpec.ofChange orderClocksWrong)

/-- 'scarablaw12.OrderAsks': WHATEVER THE INPUT: true; the input reads as it did. -/
def orderAsksSpec : ChangeSpec := { name := "orderAsks", fn := fun _ => fun
  | [d1, d2, d3] => { results := [.lit (.bool true)], args := [d1, d2, d3] }
  | _ => none }
def orderAsksRow : OpenClaim := { program := "ytgipkikbefnokaa", sum := "a6d6896da976373933ff1e618c3c4518ef32b16bdc96f3ecf7157ac96d01e072", func := "scarab/scarablaw12.OrderAsks", spec := "orderAsks", unfollowed := true, recurses := true, plainKeys := false, apart := false }
def OrderAsksSaid : Prop := orderAsksRow.holds Try.pinned (OpenSpec.ofChange orderAsksSpec)

/-- ITS FALSE NEIGHBOUR: 'it returns false'. Refute it at one input. -/
def orderAsksWrong : ChangeSpec := { name := "orderAsks", fn := fun _ => fun
  | [d1, d2, d3] => { results := [.lit (.bool false)], args := [d1, d2, d3] }
  | _ => none }
def OrderAsksWrongFalsely : Prop := orderAsksRow.holds Try.pinned (OpenSpec.ofChange orderAsksWrong)

/-- 'scarablaw13.CanonForms': WHATEVER THE INPUT: true; the input reads as it did. -/
def canonFormsSpec : ChangeSpec := { name := "canonForms", fn := fun _ => fun
  | [d] => { results := [.lit (.bool true)], args := [d] }
  | _ => none }
def canonFormsRow : OpenClaim := { program := "ytgipkikbefnokaa", sum := "a6d6896da976373933ff1e618c3c4518ef32b16bdc96f3ecf7157ac96d01e072", func := "scarab/scarablaw13.CanonForms", spec := "canonForms", unfollowed := true, recurses := true, plainKeys := false, apart := false }
def CanonFormsSaid : Prop := canonFormsRow.holds Try.pinned (OpenSpec.ofChange canonFormsSpec)

/-- ITS FALSE NEIGHBOUR: 'it returns false'. Refute it at one input. -/
def canonFormsWrong : ChangeSpec := { name := "canonForms", fn := fun _ => fun
  | [d] => { results := [.lit (.bool false)], args := [d] }
  | _ => none }
def CanonFormsWrongFalsely : Prop := canonFormsRow.holds Try.pinned (OpenSpec.ofChange canonFormsWrong)

/-- 'scarablaw13.CanonFoata': WHATEVER THE INPUT: true; the input reads as it did. -/
def canonFoataSpec : ChangeSpec := { name := "canonFoata", fn := fun _ => fun
  | [d] => { results := [.lit (.bool true)], args := [d] }
  | _ => none }
def canonFoataRow : OpenClaim := { program := "ytgipkikbefnokaa", sum := "a6d6896da976373933ff1e618c3c4518ef32b16bdc96f3ecf7157ac96d01e072", func := "scarab/scarablaw13.CanonFoata", spec := "canonFoata", unfollowed := true, recurses := true, plainKeys := false, apart := false }
def CanonFoataSaid : Prop := canonFoataRow.holds Try.pinned (OpenSpec.ofChange canonFoataSpec)

/-- ITS FALSE NEIGHBOUR: 'it returns false'. Refute it at one input. -/
def canonFoataWrong : ChangeSpec := { name := "canonFoata", fn := fun _ => fun
  | [d] => { results := [.lit (.bool false)], args := [d] }
  | _ => none }
def CanonFoataWrongFalsely : Prop := canonFoataRow.holds Try.pinned (OpenSpec.ofChange canonFoataWrong)

/-- 'scarablaw13.CanonWays': WHATEVER THE INPUT: true; the input reads as it did. -/
def canonWaysSpec : ChangeSpec := { name := "canonWays", fn := fun _ => fun
  | [d] => { results := [.lit (.bool true)], args := [d] }
  | _ => none }
def canonWaysRow : OpenClaim := { program := "ytgipkikbefnokaa", sum := "a6d6896da976373933ff1e618c3c4518ef32b16bdc96f3ecf7157ac96d01e072", func := "scarab/scarablaw13.CanonWays", spec := "canonWays", unfollowed := true, recurses := true, plainKeys := false, apart := false }
def CanonWaysSaid : Prop := canonWaysRow.holds Try.pinned (OpenSpec.ofChange canonWaysSpec)

/-- ITS FALSE NEIGHBOUR: 'it returns false'. Refute it at one input. -/
def canonWaysWrong : ChangeSpec := { name := "canonWays", fn := fun _ => fun
  | [d] => { results := [.lit (.bool false)], args := [d] }
  | _ => none }
def CanonWaysWrongFalsely : Prop := canonWaysRow.holds Try.pinned (OpenSpec.ofChange canonWaysWrong)

/-- 'scarablaw13.CanonApplies': WHATEVER THE INPUT: true; the input reads as it did. -/
def canonAppliesSpec : ChangeSpec := { name := "canonApplies", fn := fun _ => fun
  | [d1, d2] => { results := [.lit (.bool true)], args := [d1, d2] }
  | _ => none }
def canonAppliesRow : OpenClaim := { program := "ytgipkikbefnokaa", sum := "a6d6896da976373933ff1e618c3c4518ef32b16bdc96f3ecf7157ac96d01e072", func := "scarab/scarablaw13.CanonApplies", spec := "canonApplies", unfollowed := true, recurses := true, plainKeys := false, apart := false }
def CanonAppliesSaid : Prop := canonAppliesRow.holds Try.pinned (OpenSpec.ofChange canonAppliesSpec)

/-- ITS FALSE NEIGHBOUR: 'it returns false'. Refute it at one input. -/
def canonAppliesWrong : ChangeSpec := { name := "canonApplies", fn := fun _ => fun
  | [d1, d2] => { results := [.lit (.bool false)], args := [d1, d2] }
  | _ => none }
def CanonAppliesWrongFalsely : Prop := canonAppliesRow.holds Try.pinned (OpenSpec.ofChange canonAppliesWrong)

/-- 'scarablaw13.CanonOnce': WHATEVER THE INPUT: true; the input reads as it did. -/
def canonOnceSpec : ChangeSpec := { name := "canonOnce", fn := fun _ => fun
  | [d] => { results := [.lit (.bool true)], args := [d] }
  | _ => none }
def canonOnceRow : OpenClaim := { program := "ytgipkikbefnokaa", sum := "a6d6896da976373933ff1e618c3c4518ef32b16bdc96f3ecf7157ac96d01e072", func := "scarab/scarablaw13.CanonOnce", spec := "canonOnce", unfollowed := true, recurses := true, plainKeys := false, apart := false }
def CanonOnceSaid : Prop := canonOnceRow.holds Try.pinned (OpenSpec.ofChange canonOnceSpec)

/-- ITS FALSE NEIGHBOUR: 'it returns false'. Refute it at one input. -/
def canonOnceWrong : ChangeSpec := { name := "canonOnce", fn := fun _ => fun
  | [d] => { results := [.lit (.bool false)], args := [d] }
  | _ => none }
def CanonOnceWrongFalsely : Prop := canonOnceRow.holds Try.pinned (OpenSpec.ofChange canonOnceWrong)

/-- 'scarablaw12.OrderLists': WHATEVER THE INPUT: true; the input reads as it did. -/
def orderListsSpec : ChangeSpec := { name := "orderLists", fn := fun _ => fun
  | [d1, d2] => { results := [.lit (.bool true)], args := [d1, d2] }
  | _ => none }
def orderListsRow : OpenClaim := { program := "ytgipkikbefnokaa", sum := "a6d6896da976373933ff1e618c3c4518ef32b16bdc96f3ecf7157ac96d01e072", func := "scarab/scarablaw12.OrderLists", spec := "orderLists", unfollowed := true, recurses := true, plainKeys := false, apart := false }
def OrderListsSaid : Prop := orderListsRow.holds Try.pinned (OpenSpec.ofChange orderListsSpec)

/-- ITS FALSE NEIGHBOUR: 'it returns false'. Refute it at one input. -/
def orderListsWrong : ChangeSpec := { name := "orderLists", fn := fun _ => fun
  | [d1, d2] => { results := [.lit (.bool false)], args := [d1, d2] }
  | _ => none }
def OrderListsWrongFalsely : Prop := orderListsRow.holds Try.pinned (OpenSpec.ofChange orderListsWrong)

/-- 'scarablaw12.OrderCuts': WHATEVER THE INPUT: true; the input reads as it did. -/
def orderCutsSpec : ChangeSpec := { name := "orderCuts", fn := fun _ => fun
  | [d1, d2, d3] => { results := [.lit (.bool true)], args := [d1, d2, d3] }
  | _ => none }
def orderCutsRow : OpenClaim := { program := "ytgipkikbefnokaa", sum := "a6d6896da976373933ff1e618c3c4518ef32b16bdc96f3ecf7157ac96d01e072", func := "scarab/scarablaw12.OrderCuts", spec := "orderCuts", unfollowed := true, recurses := true, plainKeys := false, apart := false }
def OrderCutsSaid : Prop := orderCutsRow.holds Try.pinned (OpenSpec.ofChange orderCutsSpec)

/-- ITS FALSE NEIGHBOUR: 'it returns false'. Refute it at one input. -/
def orderCutsWrong : ChangeSpec := { name := "orderCuts", fn := fun _ => fun
  | [d1, d2, d3] => { results := [.lit (.bool false)], args := [d1, d2, d3] }
  | _ => none }
def OrderCutsWrongFalsely : Prop := orderCutsRow.holds Try.pinned (OpenSpec.ofChange orderCutsWrong)

/- THE SECOND FORM. 'bulk': how many values and letters a reading holds, each counted each time it is reached (what is shared counts as often as it is met; a slice's spare places count too). A statement '..UptoSaid' is the law's where the arguments, and the package variables that the reading takes, are together of bulk at most 1048576: NARROWER than '..Said'. Prove '..Said' where nothing that the law and all that it calls make is longer than what came in: it says more and counts as full. Else prove '..UptoSaid'. A law counts once. -/
mutual
def uptoBulk {H : Type} : DataW H → Nat
  | .lit (.string bytes) => bytes.length + 1
  | .lit _ => 1
  | .nil => 1
  | .ptr d => uptoBulk d + 1
  | .slice elems spare => uptoBulkAll elems + uptoBulkAll spare + 1
  | .agg parts => uptoBulkAll parts + 1
  | .iface _ d => uptoBulk d + 1
  | .map entries => uptoBulkEntries entries + 1
  | .held _ => 1
def uptoBulkAll {H : Type} : List (DataW H) → Nat
  | [] => 0
  | d :: r => uptoBulk d + uptoBulkAll r
def uptoBulkEntries {H : Type} : List (Lit × DataW H) → Nat
  | [] => 0
  | x :: r => uptoBulkEntry x + uptoBulkEntries r
def uptoBulkEntry {H : Type} : Lit × DataW H → Nat
  | (.string bytes, d) => bytes.length + uptoBulk d + 1
  | (_, d) => uptoBulk d + 1
 end
def uptoSmall : (H : Type) → List (DataW H) → Bool := fun _ ds => decide (uptoBulkAll ds ≤ 1048576)
def OpenSpec.upto (s : _root_.Go.ChangeSpec) : _root_.Go.OpenSpec := { _root_.Go.OpenSpec.ofChange s with cond := some uptoSmall }

/-- 'scarablaw13.CanonCounts', WHERE WHAT IT READS IS OF BULK AT MOST 1048576: true; the input reads as it did. -/
def canonCountsUptoRow : OpenClaim := { program := "ytgipkikbefnokaa", sum := "a6d6896da976373933ff1e618c3c4518ef32b16bdc96f3ecf7157ac96d01e072", func := "scarab/scarablaw13.CanonCounts", spec := "canonCounts", unfollowed := true, recurses := true, plainKeys := false, apart := false, narrowed := true }
def CanonCountsUptoSaid : Prop := canonCountsUptoRow.holds Try.pinned (OpenSpec.upto canonCountsSpec)

/-- 'scarablaw12.OrderFollows', WHERE WHAT IT READS IS OF BULK AT MOST 1048576: true; the input reads as it did. -/
def orderFollowsUptoRow : OpenClaim := { program := "ytgipkikbefnokaa", sum := "a6d6896da976373933ff1e618c3c4518ef32b16bdc96f3ecf7157ac96d01e072", func := "scarab/scarablaw12.OrderFollows", spec := "orderFollows", unfollowed := true, recurses := true, plainKeys := false, apart := false, narrowed := true }
def OrderFollowsUptoSaid : Prop := orderFollowsUptoRow.holds Try.pinned (OpenSpec.upto orderFollowsSpec)

/-- 'scarablaw12.OrderHigh', WHERE WHAT IT READS IS OF BULK AT MOST 1048576: true; the input reads as it did. -/
def orderHighUptoRow : OpenClaim := { program := "ytgipkikbefnokaa", sum := "a6d6896da976373933ff1e618c3c4518ef32b16bdc96f3ecf7157ac96d01e072", func := "scarab/scarablaw12.OrderHigh", spec := "orderHigh", unfollowed := true, recurses := true, plainKeys := false, apart := false, narrowed := true }
def OrderHighUptoSaid : Prop := orderHighUptoRow.holds Try.pinned (OpenSpec.upto orderHighSpec)

/-- 'scarablaw12.OrderByClocks', WHERE WHAT IT READS IS OF BULK AT MOST 1048576: true; the input reads as it did. -/
def orderByClocksUptoRow : OpenClaim := { program := "ytgipkikbefnokaa", sum := "a6d6896da976373933ff1e618c3c4518ef32b16bdc96f3ecf7157ac96d01e072", func := "scarab/scarablaw12.OrderByClocks", spec := "orderByClocks", unfollowed := true, recurses := true, plainKeys := false, apart := false, narrowed := true }
def OrderByClocksUptoSaid : Prop := orderByClocksUptoRow.holds Try.pinned (OpenSpec.upto orderByClocksSpec)

/-- 'scarablaw12.OrderTurned', WHERE WHAT IT READS IS OF BULK AT MOST 1048576: true; the input reads as it did. -/
def orderTurnedUptoRow : OpenClaim := { program := "ytgipkikbefnokaa", sum := "a6d6896da976373933ff1e618c3c4518ef32b16bdc96f3ecf7157ac96d01e072", func := "scarab/scarablaw12.OrderTurned", spec := "orderTurned", unfollowed := true, recurses := true, plainKeys := false, apart := false, narrowed := true }
def OrderTurnedUptoSaid : Prop := orderTurnedUptoRow.holds Try.pinned (OpenSpec.upto orderTurnedSpec)

/-- 'scarablaw12.OrderClocks', WHERE WHAT IT READS IS OF BULK AT MOST 1048576: true; the input reads as it did. -/
def orderClocksUptoRow : OpenClaim := { program := "ytgipkikbefnokaa", sum := "a6d6896da976373933ff1e618c3c4518ef32b16bdc96f3ecf7157ac96d01e072", func := "scarab/scarablaw12.OrderClocks", spec := "orderClocks", unfollowed := true, recurses := true, plainKeys := false, apart := false, narrowed := true }
def OrderClocksUptoSaid : Prop := orderClocksUptoRow.holds Try.pinned (OpenSpec.upto orderClocksSpec)

/-- 'scarablaw12.OrderAsks', WHERE WHAT IT READS IS OF BULK AT MOST 1048576: true; the input reads as it did. -/
def orderAsksUptoRow : OpenClaim := { program := "ytgipkikbefnokaa", sum := "a6d6896da976373933ff1e618c3c4518ef32b16bdc96f3ecf7157ac96d01e072", func := "scarab/scarablaw12.OrderAsks", spec := "orderAsks", unfollowed := true, recurses := true, plainKeys := false, apart := false, narrowed := true }
def OrderAsksUptoSaid : Prop := orderAsksUptoRow.holds Try.pinned (OpenSpec.upto orderAsksSpec)

/-- 'scarablaw13.CanonForms', WHERE WHAT IT READS IS OF BULK AT MOST 1048576: true; the input reads as it did. -/
def canonFormsUptoRow : OpenClaim := { program := "ytgipkikbefnokaa", sum := "a6d6896da976373933ff1e618c3c4518ef32b16bdc96f3ecf7157ac96d01e072", func := "scarab/scarablaw13.CanonForms", spec := "canonForms", unfollowed := true, recurses := true, plainKeys := false, apart := false, narrowed := true }
def CanonFormsUptoSaid : Prop := canonFormsUptoRow.holds Try.pinned (OpenSpec.upto canonFormsSpec)

/-- 'scarablaw13.CanonFoata', WHERE WHAT IT READS IS OF BULK AT MOST 1048576: true; the input reads as it did. -/
def canonFoataUptoRow : OpenClaim := { program := "ytgipkikbefnokaa", sum := "a6d6896da976373933ff1e618c3c4518ef32b16bdc96f3ecf7157ac96d01e072", func := "scarab/scarablaw13.CanonFoata", spec := "canonFoata", unfollowed := true, recurses := true, plainKeys := false, apart := false, narrowed := true }
def CanonFoataUptoSaid : Prop := canonFoataUptoRow.holds Try.pinned (OpenSpec.upto canonFoataSpec)

/-- 'scarablaw13.CanonWays', WHERE WHAT IT READS IS OF BULK AT MOST 1048576: true; the input reads as it did. -/
def canonWaysUptoRow : OpenClaim := { program := "ytgipkikbefnokaa", sum := "a6d6896da976373933ff1e618c3c4518ef32b16bdc96f3ecf7157ac96d01e072", func := "scarab/scarablaw13.CanonWays", spec := "canonWays", unfollowed := true, recurses := true, plainKeys := false, apart := false, narrowed := true }
def CanonWaysUptoSaid : Prop := canonWaysUptoRow.holds Try.pinned (OpenSpec.upto canonWaysSpec)

/-- 'scarablaw13.CanonApplies', WHERE WHAT IT READS IS OF BULK AT MOST 1048576: true; the input reads as it did. -/
def canonAppliesUptoRow : OpenClaim := { program := "ytgipkikbefnokaa", sum := "a6d6896da976373933ff1e618c3c4518ef32b16bdc96f3ecf7157ac96d01e072", func := "scarab/scarablaw13.CanonApplies", spec := "canonApplies", unfollowed := true, recurses := true, plainKeys := false, apart := false, narrowed := true }
def CanonAppliesUptoSaid : Prop := canonAppliesUptoRow.holds Try.pinned (OpenSpec.upto canonAppliesSpec)

/-- 'scarablaw13.CanonOnce', WHERE WHAT IT READS IS OF BULK AT MOST 1048576: true; the input reads as it did. -/
def canonOnceUptoRow : OpenClaim := { program := "ytgipkikbefnokaa", sum := "a6d6896da976373933ff1e618c3c4518ef32b16bdc96f3ecf7157ac96d01e072", func := "scarab/scarablaw13.CanonOnce", spec := "canonOnce", unfollowed := true, recurses := true, plainKeys := false, apart := false, narrowed := true }
def CanonOnceUptoSaid : Prop := canonOnceUptoRow.holds Try.pinned (OpenSpec.upto canonOnceSpec)

/-- 'scarablaw12.OrderLists', WHERE WHAT IT READS IS OF BULK AT MOST 1048576: true; the input reads as it did. -/
def orderListsUptoRow : OpenClaim := { program := "ytgipkikbefnokaa", sum := "a6d6896da976373933ff1e618c3c4518ef32b16bdc96f3ecf7157ac96d01e072", func := "scarab/scarablaw12.OrderLists", spec := "orderLists", unfollowed := true, recurses := true, plainKeys := false, apart := false, narrowed := true }
def OrderListsUptoSaid : Prop := orderListsUptoRow.holds Try.pinned (OpenSpec.upto orderListsSpec)

/-- 'scarablaw12.OrderCuts', WHERE WHAT IT READS IS OF BULK AT MOST 1048576: true; the input reads as it did. -/
def orderCutsUptoRow : OpenClaim := { program := "ytgipkikbefnokaa", sum := "a6d6896da976373933ff1e618c3c4518ef32b16bdc96f3ecf7157ac96d01e072", func := "scarab/scarablaw12.OrderCuts", spec := "orderCuts", unfollowed := true, recurses := true, plainKeys := false, apart := false, narrowed := true }
def OrderCutsUptoSaid : Prop := orderCutsUptoRow.holds Try.pinned (OpenSpec.upto orderCutsSpec)

end Rows
end Go.Proofs.Ytgipkikbefnokaa
