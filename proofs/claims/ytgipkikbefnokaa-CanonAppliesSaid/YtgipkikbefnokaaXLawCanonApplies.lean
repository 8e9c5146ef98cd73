/- The row 'CanonAppliesSaid', out of the walk over plain values. No condition beyond the row's own. -/
import Derived.Test.YtgipkikbefnokaaRows
import Derived.Test.YtgipkikbefnokaaXCe
import Derived.Test.YtgipkikbefnokaaXSc4
namespace Go.Proofs.Ytgipkikbefnokaa.canonApplies
open Go Go.Av Go.Sc Go.Sc.Or Go.RowKit
set_option linter.unusedVariables false
theorem own : ownKnob Try.prog.godebug = none := by kernel_rfl
theorem pars : Try.f13.params.toList = [22, 48] := by kernel_rfl
theorem shape22 : shT Try.prog 8 22 = some [.sl 208 evSh] := by kernel_rfl
theorem is22 : (match Try.prog.underlying 22 with | some (.struct _) => false | some (.array _ _) => false | _ => true) = true := by kernel_rfl
theorem shape48 : shT Try.prog 8 48 = some [.sl 8 [.i .i64]] := by kernel_rfl
theorem is48 : (match Try.prog.underlying 48 with | some (.struct _) => false | some (.array _ _) => false | _ => true) = true := by kernel_rfl
set_option maxRecDepth 100000 in
theorem lifted (os : Os) (started : os.Started) (H : Type) (enc : TypeId × Value → H) :
    ReturnsInHanded {} Try.checked os 13 .any (Rows.canonAppliesSpec.pre6 enc Try.prog Try.f13 Rows.canonAppliesRow.domain false) (Rows.canonAppliesSpec.post enc Try.prog Try.f13 false true false false) := by
  refine returnsInHanded_of_change_sized (C := Try.checked) own started (by kernel_rfl) Try.func13
    (ChangeSpec.witness6 (enc := enc) (C := Try.checked) false ⟨#[], #[.slice none 0 0, .slice none 0 0], []⟩ 12 (by kernel_rfl) (by kernel_rfl) (by kernel_rfl) (by kernel_rfl)) ?_
  refine law_contract (d := 8) (tb := Try.f13.resultTypes.getD 0 0) (by kernel_rfl) ?_ rfl (by kernel_rfl) (by kernel_rfl) (by kernel_rfl) (by kernel_rfl) (by kernel_rfl) ?_
  · intro ds hd
    rw [pars] at hd
    match ds, hd with
    | [a0, a1], _ => rfl
  · intro al hA W args hn hv
    have hA : FitA Try.prog 8 Try.f13.params.toList al := hA
    rw [pars] at hA
    match al, hA with
    | [x0, x1], hA =>
      obtain ⟨g0, g1, _⟩ := hA
      obtain ⟨p0, rfl, h0⟩ := arg_evs shape22 is22 g0
      obtain ⟨p1, rfl, h1⟩ := arg_ints shape48 is48 g1
      exact law_calls (Or.canonApplies p0 h0 p1 h1.1) W args hn hv
theorem over : Rows.canonAppliesRow.holds Try.pinned (OpenSpec.ofChange Rows.canonAppliesSpec) :=
  OpenClaim.holds_of_wide 13 Try.f13 rfl rfl rfl rfl rfl rfl rfl ⟨rfl, rfl, rfl, rfl, rfl⟩ rfl rfl rfl rfl rfl (by kernel_rfl) Try.func13 (by kernel_rfl)
    (of_decide_eq_true (by kernel_rfl)) (by unfold Func.isWrapper; first | (rw [if_pos (by decide +kernel)]; kernel_rfl) | (rw [if_neg (by decide +kernel)]; exact ⟨rfl, rfl⟩))
    (fun os started H enc _ => lifted os started H enc)
theorem proved : Rows.CanonAppliesSaid := over
#print axioms proved
end Go.Proofs.Ytgipkikbefnokaa.canonApplies
namespace Go.Proofs.Ytgipkikbefnokaa
/-- The row, under a short name, for the claim. -/
theorem canonApplies_holds : Rows.CanonAppliesSaid := canonApplies.proved
end Go.Proofs.Ytgipkikbefnokaa
