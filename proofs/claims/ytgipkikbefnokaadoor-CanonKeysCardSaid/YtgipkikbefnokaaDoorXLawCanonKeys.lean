/- The row 'CanonKeysSaid' and its card, out of the walk over plain values. The package variables math/bits.deBruijn32tab, math/bits.deBruijn64tab, internal/strconv.uint64pow10 hold what the program's text lays (the card ties them). No condition beyond the row's own. -/
import Derived.Test.YtgipkikbefnokaaDoorRows
import Derived.Test.YtgipkikbefnokaaDoorCards
import Derived.Test.YtgipkikbefnokaaDoorTie
import Derived.Test.YtgipkikbefnokaaDoorXKeD
import Derived.Test.YtgipkikbefnokaaDoorXSc4
import Derived.Test.YtgipkikbefnokaaDoorXAvF
import Derived.LaidLaws
import Derived.SevenTiedAt
namespace Go.Proofs.YtgipkikbefnokaaDoor.canonKeys
open Go Go.Av Go.Sc Go.Sc.Or Go.RowKit
set_option linter.unusedVariables false
theorem own : ownKnob Tryd.prog.godebug = none := by kernel_rfl
theorem pars : Tryd.f4.params.toList = [22, 22, 22] := by kernel_rfl
theorem shape22 : shT Tryd.prog 8 22 = some [.sl 208 evSh] := by kernel_rfl
theorem is22 : (match Tryd.prog.underlying 22 with | some (.struct _) => false | some (.array _ _) => false | _ => true) = true := by kernel_rfl
/-- The settled world, with the variables as the text lays them. -/
noncomputable def laidWorld (os : Os) : World :=
  let w0 := World.holding Tryd.prog os ⟨#[], #[], []⟩
  { w0 with heap := (((w0.heap.modify 1 fun
      | .cells _ t fr => .cells #[.int .u8 0, .int .u8 1, .int .u8 28, .int .u8 2, .int .u8 29, .int .u8 14, .int .u8 24, .int .u8 3, .int .u8 30, .int .u8 22, .int .u8 20, .int .u8 15, .int .u8 25, .int .u8 17, .int .u8 4, .int .u8 8, .int .u8 31, .int .u8 27, .int .u8 13, .int .u8 23, .int .u8 21, .int .u8 19, .int .u8 16, .int .u8 7, .int .u8 26, .int .u8 12, .int .u8 18, .int .u8 6, .int .u8 11, .int .u8 5, .int .u8 10, .int .u8 9] t fr
      | o => o).modify 2 fun
      | .cells _ t fr => .cells #[.int .u8 0, .int .u8 1, .int .u8 56, .int .u8 2, .int .u8 57, .int .u8 49, .int .u8 28, .int .u8 3, .int .u8 61, .int .u8 58, .int .u8 42, .int .u8 50, .int .u8 38, .int .u8 29, .int .u8 17, .int .u8 4, .int .u8 62, .int .u8 47, .int .u8 59, .int .u8 36, .int .u8 45, .int .u8 43, .int .u8 51, .int .u8 22, .int .u8 53, .int .u8 39, .int .u8 33, .int .u8 30, .int .u8 24, .int .u8 18, .int .u8 12, .int .u8 5, .int .u8 63, .int .u8 55, .int .u8 48, .int .u8 27, .int .u8 60, .int .u8 41, .int .u8 37, .int .u8 16, .int .u8 46, .int .u8 35, .int .u8 44, .int .u8 21, .int .u8 52, .int .u8 32, .int .u8 23, .int .u8 11, .int .u8 54, .int .u8 26, .int .u8 40, .int .u8 15, .int .u8 34, .int .u8 20, .int .u8 31, .int .u8 10, .int .u8 25, .int .u8 14, .int .u8 19, .int .u8 9, .int .u8 13, .int .u8 8, .int .u8 7, .int .u8 6] t fr
      | o => o).modify 0 fun
      | .cells _ t fr => .cells #[.int .u64 1, .int .u64 10, .int .u64 100, .int .u64 1000, .int .u64 10000, .int .u64 100000, .int .u64 1000000, .int .u64 10000000, .int .u64 100000000, .int .u64 1000000000, .int .u64 10000000000, .int .u64 100000000000, .int .u64 1000000000000, .int .u64 10000000000000, .int .u64 100000000000000, .int .u64 1000000000000000, .int .u64 10000000000000000, .int .u64 100000000000000000, .int .u64 1000000000000000000, .int .u64 10000000000000000000] t fr
      | o => o) }
set_option maxRecDepth 100000 in
theorem laid_met (os : Os) (args : Array Value) : laidMet Tryd.prog Rows.canonKeysRow.laid ((laidWorld os).forCall (fun _ _ => 0) ⟨#[], args, []⟩).memory :=
  laidMet_of_run' 8 (by kernel_rfl) (by kernel_rfl)
theorem reads1 {W : World} (h : laidMet Tryd.prog Rows.canonKeysRow.laid W) : ∃ t fz, W.heap[1]? = some (.cells (([0, 1, 28, 2, 29, 14, 24, 3, 30, 22, 20, 15, 25, 17, 4, 8, 31, 27, 13, 23, 21, 19, 16, 7, 26, 12, 18, 6, 11, 5, 10, 9] : List Int).map fun z => Value.int .u8 z).toArray t fz) :=
  tab_of_reads (name := "math/bits.deBruijn32tab") (by kernel_rfl) (t := ((Tryd.prog.globals[1]?).map (·.type)).getD 0) (by kernel_rfl) (n := 32) (e := 5) (by kernel_rfl) (by kernel_rfl) (by kernel_rfl) (by kernel_rfl) (Lib.laidMet.reads h (by simp [Rows.canonKeysRow]; rfl))
theorem reads2 {W : World} (h : laidMet Tryd.prog Rows.canonKeysRow.laid W) : ∃ t fz, W.heap[2]? = some (.cells (([0, 1, 56, 2, 57, 49, 28, 3, 61, 58, 42, 50, 38, 29, 17, 4, 62, 47, 59, 36, 45, 43, 51, 22, 53, 39, 33, 30, 24, 18, 12, 5, 63, 55, 48, 27, 60, 41, 37, 16, 46, 35, 44, 21, 52, 32, 23, 11, 54, 26, 40, 15, 34, 20, 31, 10, 25, 14, 19, 9, 13, 8, 7, 6] : List Int).map fun z => Value.int .u8 z).toArray t fz) :=
  tab_of_reads (name := "math/bits.deBruijn64tab") (by kernel_rfl) (t := ((Tryd.prog.globals[2]?).map (·.type)).getD 0) (by kernel_rfl) (n := 64) (e := 5) (by kernel_rfl) (by kernel_rfl) (by kernel_rfl) (by kernel_rfl) (Lib.laidMet.reads h (by simp [Rows.canonKeysRow]; rfl))
theorem reads0 {W : World} (h : laidMet Tryd.prog Rows.canonKeysRow.laid W) : ∃ t fz, W.heap[0]? = some (.cells (([1, 10, 100, 1000, 10000, 100000, 1000000, 10000000, 100000000, 1000000000, 10000000000, 100000000000, 1000000000000, 10000000000000, 100000000000000, 1000000000000000, 10000000000000000, 100000000000000000, 1000000000000000000, 10000000000000000000] : List Int).map fun z => Value.int .u64 z).toArray t fz) :=
  tab_of_reads (name := "internal/strconv.uint64pow10") (by kernel_rfl) (t := ((Tryd.prog.globals[0]?).map (·.type)).getD 0) (by kernel_rfl) (n := 20) (e := 101) (by kernel_rfl) (by kernel_rfl) (by kernel_rfl) (by kernel_rfl) (Lib.laidMet.reads h (by simp [Rows.canonKeysRow]; rfl))
theorem none3 (g : Nat) (cs : List AV) (h : tabOf Tryd.prog g = some cs) : g < 3 := by
  apply Classical.byContradiction
  intro hc
  unfold tabOf at h
  have hs : Tryd.prog.globals.size = 3 := by kernel_rfl
  rw [Array.getElem?_eq_none (by omega)] at h
  cases h
theorem tabs {W : World} (h : laidMet Tryd.prog Rows.canonKeysRow.laid W) : Tabs Tryd.prog ⟨W, fun b => b < W.heap.size, [], []⟩ := by
  intro g cs hg
  have hlt := none3 g cs hg
  have fin : ∀ (g : Nat) (cs : List AV) (vs : Array Value), vs = (cs.map AV.val).toArray → (∃ t fz, W.heap[g]? = some (.cells vs t fz)) → g < W.heap.size ∧ ∃ t fz, W.heap[g]? = some (.cells (cs.map AV.val).toArray t fz) := fun g cs vs e ⟨t, fz, hh⟩ => ⟨(Array.getElem?_eq_some_iff.1 hh).1, t, fz, by rw [hh, e]⟩
  match g, hlt with
  | 0, _ =>
    obtain rfl : pow10s = cs := Option.some.inj ((show tabOf Tryd.prog 0 = some pow10s by kernel_rfl).symm.trans hg)
    exact fin 0 _ _ (by rfl) (reads0 h)
  | 1, _ =>
    obtain rfl : deBr32 = cs := Option.some.inj ((show tabOf Tryd.prog 1 = some deBr32 by kernel_rfl).symm.trans hg)
    exact fin 1 _ _ (by rfl) (reads1 h)
  | 2, _ =>
    obtain rfl : deBr64 = cs := Option.some.inj ((show tabOf Tryd.prog 2 = some deBr64 by kernel_rfl).symm.trans hg)
    exact fin 2 _ _ (by rfl) (reads2 h)
set_option maxRecDepth 100000 in
theorem lifted (os : Os) (started : os.Started) (H : Type) (enc : TypeId × Value → H) :
    ReturnsInHanded {} Tryd.checked os 4 .any (fun w args => (Rows.canonKeysSpec.pre enc Tryd.prog Tryd.f4 Rows.canonKeysRow.domain false w args ∧ laidMet Tryd.prog Rows.canonKeysRow.laid w) ∧ sizedMet enc Tryd.prog Tryd.f4 (OpenSpec.ofChange Rows.canonKeysSpec) false w args) (Rows.canonKeysSpec.post enc Tryd.prog Tryd.f4 false true false false) := by
  refine returnsInHanded_of_change_and (C := Tryd.checked) (X := fun w _ => laidMet Tryd.prog Rows.canonKeysRow.laid w) (fun _ _ _ hh h => h.of_heap hh) own started (by kernel_rfl) Tryd.func4
    (ChangeSpec.witness_at (enc := enc) (C := Tryd.checked) (os := os) (X := fun w _ => laidMet Tryd.prog Rows.canonKeysRow.laid w) false (laidWorld os) #[.slice none 0 0, .slice none 0 0, .slice none 0 0] 12 rfl (by kernel_rfl) (by kernel_rfl) (by kernel_rfl) (by kernel_rfl) (by kernel_rfl) (laid_met os _)) ?_
  refine law_contractX (X := fun w _ => laidMet Tryd.prog Rows.canonKeysRow.laid w) (d := 8) (tb := Tryd.f4.resultTypes.getD 0 0) (by kernel_rfl) ?_ rfl (by kernel_rfl) (by kernel_rfl) (by kernel_rfl) (by kernel_rfl) (by kernel_rfl) ?_
  · intro ds hd
    rw [pars] at hd
    match ds, hd with
    | [a0, a1, a2], _ => rfl
  · intro al hA W args hn hv hX
    have hA : FitA Tryd.prog 8 Tryd.f4.params.toList al := hA
    rw [pars] at hA
    match al, hA with
    | [x0, x1, x2], hA =>
      obtain ⟨g0, g1, g2, _⟩ := hA
      obtain ⟨p0, rfl, h0⟩ := arg_evb shape22 is22 g0
      obtain ⟨p1, rfl, h1⟩ := arg_evb shape22 is22 g1
      obtain ⟨p2, rfl, h2⟩ := arg_evb shape22 is22 g2
      exact law_calls (Or.canonKeys p0 p1 p2 (Nat.lt_of_le_of_lt h0.1 (by decide)) (Nat.lt_of_le_of_lt h1.1 (by decide)) (Nat.lt_of_le_of_lt h2.1 (by decide)) h0.2 h1.2) W (tabs hX) args hn hv
theorem over : Rows.canonKeysRow.holds Tryd.pinned (OpenSpec.ofChange Rows.canonKeysSpec) :=
  OpenClaim.holds_of_wide 4 Tryd.f4 rfl rfl rfl rfl rfl rfl rfl ⟨rfl, rfl, rfl, rfl, rfl⟩ rfl rfl rfl rfl rfl (by kernel_rfl) Tryd.func4 (by kernel_rfl)
    (of_decide_eq_true (by kernel_rfl)) (by unfold Func.isWrapper; first | (rw [if_pos (by decide +kernel)]; kernel_rfl) | (rw [if_neg (by decide +kernel)]; exact ⟨rfl, rfl⟩))
    (fun os started H enc _ => lifted os started H enc)
theorem named : Tryd.prog.funcNamed "scarab/scarablaw13.CanonKeys" = some 4 := by kernel_rfl
theorem proved : Rows.CanonKeysCardSaid :=
  Claim7.holds_tied_plain_at .later [] [.data, .data, .data] true (true, "91919bbbfce91e0b69741c57cb5d05763a35b2f3afb333a54744463847c3d842") false
    over (fun _ h => by cases h) (by kernel_rfl) (fun _ h => by cases h) canonKeys_row_tie rfl ⟨rfl, rfl⟩ (by kernel_rfl) rfl
    (fun f fn hf hfn => by
      obtain rfl : f = 4 := (Option.some.inj (named.symm.trans hf)).symm
      obtain rfl : fn = Tryd.f4 := (Option.some.inj (Tryd.func4.symm.trans hfn)).symm
      exact ⟨by kernel_rfl, fun j t ht => by
        have ht : Tryd.f4.params.toList[j]? = some t := by simpa using ht
        rw [pars] at ht
        have hm := List.mem_of_getElem? ht
        simp only [List.mem_cons, List.not_mem_nil, or_false] at hm
        rcases hm with rfl | rfl | rfl
        · exact (show Tryd.prog.wantsStandIn 22 = false by kernel_rfl)
        · exact (show Tryd.prog.wantsStandIn 22 = false by kernel_rfl)
        · exact (show Tryd.prog.wantsStandIn 22 = false by kernel_rfl)⟩)
    (by kernel_rfl)
#print axioms proved
end Go.Proofs.YtgipkikbefnokaaDoor.canonKeys
namespace Go.Proofs.YtgipkikbefnokaaDoor
/-- The card, under a short name, for the claim. -/
theorem canonKeys_holds : Rows.CanonKeysCardSaid := canonKeys.proved
end Go.Proofs.YtgipkikbefnokaaDoor
