/-
  DERIVED. GIVEN WITH THE SEED: THE CARDS: each row of YtgipkikbefnokaaDoorRows.lean that lists a variable, with what it lists TIED to the program's text (the seventh form; the later family's looks); each row that meets fmt, with fmt's text TOLD by the authors' own Lean function (tested against real Go, not proved from fmt's source: count such statements apart). THE CARD IS WHAT COUNTS. Prove the row's statement (the work); the ties are given (YtgipkikbefnokaaDoorTie.lean); close each card by the builder's one call (the guide's Derived/Test/ToyasCard.lean, 'card_holds'). Laid BY PROGRAM, IN A SANDBOX (cutbox-door.mjs). By AI agents, Wed Nov 11 2026. No macro, syntax, notation, axiom, sorry.
-/
import Derived.Test.YtgipkikbefnokaaDoorRows
import GoSem.ClaimSeven
namespace Go.Proofs.YtgipkikbefnokaaDoor
namespace Rows

/-- THE TIED CARD OF 'scarablaw13.CanonSwaps'. -/
def canonSwapsCard : Claim7 := { stood := { row := canonSwapsRow, standIns := [], harness := (true, "91919bbbfce91e0b69741c57cb5d05763a35b2f3afb333a54744463847c3d842"), looks := false }, kinds := [], alts := [], laidByText := true, laidKinds := [.data, .data, .data], laidTests := true, laidLooks := .later }
def CanonSwapsCardSaid : Prop := Claim7.holds Tryd.pinned (.plain (OpenSpec.ofChange canonSwapsSpec)) canonSwapsCard

/-- THE TIED CARD OF 'scarablaw13.CanonKeys'. -/
def canonKeysCard : Claim7 := { stood := { row := canonKeysRow, standIns := [], harness := (true, "91919bbbfce91e0b69741c57cb5d05763a35b2f3afb333a54744463847c3d842"), looks := false }, kinds := [], alts := [], laidByText := true, laidKinds := [.data, .data, .data], laidTests := true, laidLooks := .later }
def CanonKeysCardSaid : Prop := Claim7.holds Tryd.pinned (.plain (OpenSpec.ofChange canonKeysSpec)) canonKeysCard

/-- THE TIED CARD OF 'scarablaw13.CanonSames'. -/
def canonSamesCard : Claim7 := { stood := { row := canonSamesRow, standIns := [], harness := (true, "91919bbbfce91e0b69741c57cb5d05763a35b2f3afb333a54744463847c3d842"), looks := false }, kinds := [], alts := [], laidByText := true, laidKinds := [.data, .data, .data], laidTests := true, laidLooks := .later }
def CanonSamesCardSaid : Prop := Claim7.holds Tryd.pinned (.plain (OpenSpec.ofChange canonSamesSpec)) canonSamesCard

/-- THE SECOND FORM's CARD OF 'scarablaw13.CanonSwaps'. -/
def canonSwapsUptoCard : Claim7 := { stood := { row := canonSwapsUptoRow, standIns := [], harness := (true, "91919bbbfce91e0b69741c57cb5d05763a35b2f3afb333a54744463847c3d842"), looks := false }, kinds := [], alts := [], laidByText := true, laidKinds := [.data, .data, .data], laidTests := true, laidLooks := .later }
def CanonSwapsUptoCardSaid : Prop := Claim7.holds Tryd.pinned (.plain (OpenSpec.upto canonSwapsSpec)) canonSwapsUptoCard

/-- THE SECOND FORM's CARD OF 'scarablaw13.CanonKeys'. -/
def canonKeysUptoCard : Claim7 := { stood := { row := canonKeysUptoRow, standIns := [], harness := (true, "91919bbbfce91e0b69741c57cb5d05763a35b2f3afb333a54744463847c3d842"), looks := false }, kinds := [], alts := [], laidByText := true, laidKinds := [.data, .data, .data], laidTests := true, laidLooks := .later }
def CanonKeysUptoCardSaid : Prop := Claim7.holds Tryd.pinned (.plain (OpenSpec.upto canonKeysSpec)) canonKeysUptoCard

/-- THE SECOND FORM's CARD OF 'scarablaw13.CanonSames'. -/
def canonSamesUptoCard : Claim7 := { stood := { row := canonSamesUptoRow, standIns := [], harness := (true, "91919bbbfce91e0b69741c57cb5d05763a35b2f3afb333a54744463847c3d842"), looks := false }, kinds := [], alts := [], laidByText := true, laidKinds := [.data, .data, .data], laidTests := true, laidLooks := .later }
def CanonSamesUptoCardSaid : Prop := Claim7.holds Tryd.pinned (.plain (OpenSpec.upto canonSamesSpec)) canonSamesUptoCard
end Rows
end Go.Proofs.YtgipkikbefnokaaDoor
